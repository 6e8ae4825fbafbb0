import Derived.Test.YtgfkbijmchoolaaDoorSh
import Derived.Test.YtgfkbijmchoolaaDoorP0
import Derived.Test.YtgfkbijmchoolaaDoorP5
import Derived.Test.YtgfkbijmchoolaaDoorP7
import Derived.Test.YtgfkbijmchoolaaDoorP8
import Derived.Test.YtgfkbijmchoolaaDoorP9
import Derived.Test.YtgfkbijmchoolaaDoorP14
namespace Go.Proofs.YtgfkbijmchoolaaDoor.P
open Go.Proofs.YtgfkbijmchoolaaDoorH Go.Proofs.YtgfkbijmchoolaaDoorSh Go.RowKit Go.Proofs.YtgfkbijmchoolaaDoorW.PrintWords Go.Proofs.YtgfkbijmchoolaaDoorW.PrintLast Go.Proofs.YtgfkbijmchoolaaDoorW.PrintMore
attribute [local go_sem] max2_int min2_int max_two min_two max_three min_three max_four min_four
set_option linter.unusedVariables false
set_option linter.unusedSimpArgs false
mutual
def selvedgelaw20_OrderKnown.l0 : Nat → List Int → List Int → Int → Int → Option (Bool)
 | 0, _, _, _, _ => none
 | k + 1, x1, x14, x15, x16 => if x16 < x15 then (if 0 ≤ x16 then (if x16 < (x14.length : Int) then ((some (([rd x14 x16, 32, 98] : List Int) : List Int)).bind fun y388 => (if x1.length + y388.length < 35184372088832 then (selvedgelaw20_OrderKnown.l0 k (x1 ++ y388) x14 x15 (wrap64 (x16 + 1))) else (none))) else (none)) else (none)) else (if 0 ≤ (x1.length : Int) then (if ((x1.length : Int) : Int).toNat ≤ 281474976710656 then (selvedgelaw20_OrderKnown.l1 k x1 (List.replicate ((x1.length : Int) : Int).toNat 0) 0) else (none)) else (none))
def selvedgelaw20_OrderKnown.l1 : Nat → List Int → List Int → Int → Option (Bool)
 | 0, _, _, _ => none
 | k + 1, x1, x4, x5 => if x5 < (x4.length : Int) then (if 0 ≤ x5 then (selvedgelaw20_OrderKnown.l1 k x1 (x4.set (x5 : Int).toNat ((Int.tmod x5 5) % 256)) (wrap64 (x5 + 1))) else (none)) else (selvedgelaw20_OrderKnown.l2 k x1 x4 (-1))
def selvedgelaw20_OrderKnown.l2 : Nat → List Int → List Int → Int → Option (Bool)
 | 0, _, _, _ => none
 | k + 1, x1, x4, x6 => if x6 < (x1.length : Int) then (selvedgelaw20_OrderKnown.l3 k x1 x4 x6 (wrap64 (x6 - 1))) else (if 1 ≤ (x4.length : Int) then ((selvedgelaw20_OrderResets.f k x1 (x4.drop 1) 0 0 1).bind fun t404 => (if t404 = true then ((selvedgelaw20_OrderResets.f k x1 x4 2 0 1).bind fun t405 => (if t405 = true then ((selvedgelaw20_OrderResets.f k (([97] : List Int)) (([127] : List Int)) 0 0 1).bind fun t412 => (if t412 = true then ((selvedgelaw20_OrderResets.f k (([32] : List Int)) (([126] : List Int)) 0 0 1).bind fun t419 => (if t419 = true then ((selvedgelaw20_OrderResets.f k ([] : List Int) ([] : List Int) 1 0 0).bind fun t420 => (if t420 = true then (if 65537 ≤ 70368744177664 then ((selvedgelaw20_OrderResets.f k (List.replicate 65537 0) ([] : List Int) 0 0 0).bind fun t424 => (selvedgelaw20_OrderKnown.j4 k (!t424))) else (none)) else (selvedgelaw20_OrderKnown.j4 k true))) else (selvedgelaw20_OrderKnown.j4 k true))) else (selvedgelaw20_OrderKnown.j4 k true))) else (selvedgelaw20_OrderKnown.j4 k true))) else (selvedgelaw20_OrderKnown.j4 k true))) else (none))
def selvedgelaw20_OrderKnown.l3 : Nat → List Int → List Int → Int → Int → Option (Bool)
 | 0, _, _, _, _ => none
 | k + 1, x1, x4, x6, x7 => if x7 ≤ (wrap64 ((x1.length : Int) + 1)) then ((selvedgelaw20_OrderResets.f k x1 x4 ((Go.bits .and .i64 x7 1) % 256) x6 x7).bind fun t398 => (if t398 = true then (selvedgelaw20_OrderKnown.l3 k x1 x4 x6 (wrap64 (x7 + 1))) else (some false))) else (selvedgelaw20_OrderKnown.l2 k x1 x4 (wrap64 (x6 + 5)))
def selvedgelaw20_OrderKnown.j4 : Nat → Bool → Option (Bool)
 | 0, _ => none
 | k + 1, x95 => if x95 = true then (some false) else ((some (([[], (([0] : List Int)), (([1] : List Int)), (([126] : List Int)), (([127] : List Int)), (([0, 0, 1, 1, 0] : List Int)), (([1, 1, 2, 2, 1] : List Int)), (([2, 2] : List Int)), (([1, 2, 3, 2, 1] : List Int)), (([4, 3, 4, 3] : List Int)), (([0, 2, 1, 3, 0, 4] : List Int)), (([125, 126, 0] : List Int)), (([3, 3, 0, 5, 5] : List Int)), (([2, 4, 6] : List Int))] : List (List Int)) : List (List Int))).bind fun y464 => (selvedgelaw20_OrderKnown.l4 k y464 (y464.length : Int) 0))
def selvedgelaw20_OrderKnown.l4 : Nat → List (List Int) → Int → Int → Option (Bool)
 | 0, _, _, _ => none
 | k + 1, x109, x110, x111 => if x111 < x110 then (if 0 ≤ x111 then (if x111 < (x109.length : Int) then ((selvedgelaw20_OrderShows.f k (rd_L7 x109 x111) (([1, 0] : List Int))).bind fun t471 => (if t471 = true then ((selvedgelaw20_OrderTurns.f k (rd_L7 x109 x111)).bind fun t472 => (if t472 = true then (selvedgelaw20_OrderKnown.l4 k x109 x110 (wrap64 (x111 + 1))) else (some false))) else (some false))) else (none)) else (none)) else ((some (([(([0, 0] : List Int)), (([1, 2] : List Int)), (([(-1), 0] : List Int)), (([2, 0, 1] : List Int)), (([4611686018427387904] : List Int)), (([(-9223372036854775808)] : List Int))] : List (List Int)) : List (List Int))).bind fun y491 => (selvedgelaw20_OrderKnown.l5 k y491 (y491.length : Int) 0))
def selvedgelaw20_OrderKnown.l5 : Nat → List (List Int) → Int → Int → Option (Bool)
 | 0, _, _, _ => none
 | k + 1, x131, x132, x133 => if x133 < x132 then (if 0 ≤ x133 then (if x133 < (x131.length : Int) then ((selvedgelaw20_OrderShows.f k ([] : List Int) (rd_L8 x131 x133)).bind fun t495 => (if t495 = true then (selvedgelaw20_OrderKnown.l5 k x131 x132 (wrap64 (x133 + 1))) else (some false))) else (none)) else (none)) else ((some (([40, 41, 60, 91, 97, 1488, (-1), 1114112, 171, 8804] : List Int) : List Int)).bind fun y496 => (selvedgelaw20_OrderKnown.l6 k y496 (y496.length : Int) 0))
def selvedgelaw20_OrderKnown.l6 : Nat → List Int → Int → Int → Option (Bool)
 | 0, _, _, _ => none
 | k + 1, x141, x142, x143 => if x143 < x142 then (if 0 ≤ x143 then (if x143 < (x141.length : Int) then ((selvedgelaw20_OrderMirrors.f k (rd x141 x143) 0).bind fun t508 => (if t508 = true then ((selvedgelaw20_OrderMirrors.f k (rd x141 x143) 1).bind fun t509 => (if t509 = true then ((selvedgelaw20_OrderMirrors.f k (rd x141 x143) 255).bind fun t510 => (if t510 = true then (selvedgelaw20_OrderKnown.l6 k x141 x142 (wrap64 (x143 + 1))) else (some false))) else (some false))) else (some false))) else (none)) else (none)) else (if 65537 ≤ 281474976710656 then (if 65537 ≤ 35184372088832 then ((selvedgelaw20_OrderShows.f k (List.replicate 65537 0) (List.replicate 65537 0)).bind fun t505 => (if t505 = true then ((selvedgelaw20_works.f k).bind fun t506 => (some t506)) else (some false))) else (none)) else (none))
end
def selvedgelaw20_OrderKnown.f (k : Nat)  : Option (Bool) := (some (([97, 32, 9, 8233, 8295, 8294, 8296, 8297, 8234, 8235, 8236, 8237, 8238, 8203, 1488, 49, 40, 10] : List Int) : List Int)).bind fun y384 => (selvedgelaw20_OrderKnown.l0 k ([] : List Int) y384 (y384.length : Int) 0)
theorem selvedgelaw20_OrderKnown.mono_l : ∀ k, (∀ y0 y1 y2 y3, LeO (selvedgelaw20_OrderKnown.l0 k y0 y1 y2 y3) (selvedgelaw20_OrderKnown.l0 (k + 1) y0 y1 y2 y3)) ∧ (∀ y0 y1 y2, LeO (selvedgelaw20_OrderKnown.l1 k y0 y1 y2) (selvedgelaw20_OrderKnown.l1 (k + 1) y0 y1 y2)) ∧ (∀ y0 y1 y2, LeO (selvedgelaw20_OrderKnown.l2 k y0 y1 y2) (selvedgelaw20_OrderKnown.l2 (k + 1) y0 y1 y2)) ∧ (∀ y0 y1 y2 y3, LeO (selvedgelaw20_OrderKnown.l3 k y0 y1 y2 y3) (selvedgelaw20_OrderKnown.l3 (k + 1) y0 y1 y2 y3)) ∧ (∀ y0, LeO (selvedgelaw20_OrderKnown.j4 k y0) (selvedgelaw20_OrderKnown.j4 (k + 1) y0)) ∧ (∀ y0 y1 y2, LeO (selvedgelaw20_OrderKnown.l4 k y0 y1 y2) (selvedgelaw20_OrderKnown.l4 (k + 1) y0 y1 y2)) ∧ (∀ y0 y1 y2, LeO (selvedgelaw20_OrderKnown.l5 k y0 y1 y2) (selvedgelaw20_OrderKnown.l5 (k + 1) y0 y1 y2)) ∧ (∀ y0 y1 y2, LeO (selvedgelaw20_OrderKnown.l6 k y0 y1 y2) (selvedgelaw20_OrderKnown.l6 (k + 1) y0 y1 y2))
 | 0 => ⟨fun _ _ _ _ r h => by simp [selvedgelaw20_OrderKnown.l0] at h, fun _ _ _ r h => by simp [selvedgelaw20_OrderKnown.l1] at h, fun _ _ _ r h => by simp [selvedgelaw20_OrderKnown.l2] at h, fun _ _ _ _ r h => by simp [selvedgelaw20_OrderKnown.l3] at h, fun _ r h => by simp [selvedgelaw20_OrderKnown.j4] at h, fun _ _ _ r h => by simp [selvedgelaw20_OrderKnown.l4] at h, fun _ _ _ r h => by simp [selvedgelaw20_OrderKnown.l5] at h, fun _ _ _ r h => by simp [selvedgelaw20_OrderKnown.l6] at h⟩
 | k + 1 => by
  obtain ⟨ih0, ih1, ih2, ih3, ih4, ih5, ih6, ih7⟩ := selvedgelaw20_OrderKnown.mono_l k
  refine ⟨?_, ?_, ?_, ?_, ?_, ?_, ?_, ?_⟩
  ·intro y0 y1 y2 y3
   unfold selvedgelaw20_OrderKnown.l0
   repeat' first
   | (with_reducible exact ih0 _ _ _ _)
   | (with_reducible exact ih1 _ _ _)
   | (with_reducible exact ih2 _ _ _)
   | (with_reducible exact ih3 _ _ _ _)
   | (with_reducible exact ih4 _)
   | (with_reducible exact ih5 _ _ _)
   | (with_reducible exact ih6 _ _ _)
   | (with_reducible exact ih7 _ _ _)
   | (with_reducible exact selvedgelaw20_OrderMirrors.mono _ _ _)
   | (with_reducible exact selvedgelaw20_OrderResets.mono _ _ _ _ _ _)
   | (with_reducible exact selvedgelaw20_OrderShows.mono _ _ _)
   | (with_reducible exact selvedgelaw20_OrderTurns.mono _ _)
   | (with_reducible exact selvedgelaw20_works.mono _)
   | (with_reducible exact LeO.refl _)
   | (with_reducible exact LeO.none _)
   | (with_reducible refine LeO.ite ?_ ?_)
   | (with_reducible refine LeO.bind ?_ (fun _ => ?_))
   | exact ih0 _ _ _ _
   | exact ih1 _ _ _
   | exact ih2 _ _ _
   | exact ih3 _ _ _ _
   | exact ih4 _
   | exact ih5 _ _ _
   | exact ih6 _ _ _
   | exact ih7 _ _ _
   | exact selvedgelaw20_OrderMirrors.mono _ _ _
   | exact selvedgelaw20_OrderResets.mono _ _ _ _ _ _
   | exact selvedgelaw20_OrderShows.mono _ _ _
   | exact selvedgelaw20_OrderTurns.mono _ _
   | exact selvedgelaw20_works.mono _
   | exact LeO.none _
   | refine LeO.ite ?_ ?_
   | refine LeO.bind ?_ (fun _ => ?_)
  ·intro y0 y1 y2
   unfold selvedgelaw20_OrderKnown.l1
   repeat' first
   | (with_reducible exact ih0 _ _ _ _)
   | (with_reducible exact ih1 _ _ _)
   | (with_reducible exact ih2 _ _ _)
   | (with_reducible exact ih3 _ _ _ _)
   | (with_reducible exact ih4 _)
   | (with_reducible exact ih5 _ _ _)
   | (with_reducible exact ih6 _ _ _)
   | (with_reducible exact ih7 _ _ _)
   | (with_reducible exact selvedgelaw20_OrderMirrors.mono _ _ _)
   | (with_reducible exact selvedgelaw20_OrderResets.mono _ _ _ _ _ _)
   | (with_reducible exact selvedgelaw20_OrderShows.mono _ _ _)
   | (with_reducible exact selvedgelaw20_OrderTurns.mono _ _)
   | (with_reducible exact selvedgelaw20_works.mono _)
   | (with_reducible exact LeO.refl _)
   | (with_reducible exact LeO.none _)
   | (with_reducible refine LeO.ite ?_ ?_)
   | (with_reducible refine LeO.bind ?_ (fun _ => ?_))
   | exact ih0 _ _ _ _
   | exact ih1 _ _ _
   | exact ih2 _ _ _
   | exact ih3 _ _ _ _
   | exact ih4 _
   | exact ih5 _ _ _
   | exact ih6 _ _ _
   | exact ih7 _ _ _
   | exact selvedgelaw20_OrderMirrors.mono _ _ _
   | exact selvedgelaw20_OrderResets.mono _ _ _ _ _ _
   | exact selvedgelaw20_OrderShows.mono _ _ _
   | exact selvedgelaw20_OrderTurns.mono _ _
   | exact selvedgelaw20_works.mono _
   | exact LeO.none _
   | refine LeO.ite ?_ ?_
   | refine LeO.bind ?_ (fun _ => ?_)
  ·intro y0 y1 y2
   unfold selvedgelaw20_OrderKnown.l2
   repeat' first
   | (with_reducible exact ih0 _ _ _ _)
   | (with_reducible exact ih1 _ _ _)
   | (with_reducible exact ih2 _ _ _)
   | (with_reducible exact ih3 _ _ _ _)
   | (with_reducible exact ih4 _)
   | (with_reducible exact ih5 _ _ _)
   | (with_reducible exact ih6 _ _ _)
   | (with_reducible exact ih7 _ _ _)
   | (with_reducible exact selvedgelaw20_OrderMirrors.mono _ _ _)
   | (with_reducible exact selvedgelaw20_OrderResets.mono _ _ _ _ _ _)
   | (with_reducible exact selvedgelaw20_OrderShows.mono _ _ _)
   | (with_reducible exact selvedgelaw20_OrderTurns.mono _ _)
   | (with_reducible exact selvedgelaw20_works.mono _)
   | (with_reducible exact LeO.refl _)
   | (with_reducible exact LeO.none _)
   | (with_reducible refine LeO.ite ?_ ?_)
   | (with_reducible refine LeO.bind ?_ (fun _ => ?_))
   | exact ih0 _ _ _ _
   | exact ih1 _ _ _
   | exact ih2 _ _ _
   | exact ih3 _ _ _ _
   | exact ih4 _
   | exact ih5 _ _ _
   | exact ih6 _ _ _
   | exact ih7 _ _ _
   | exact selvedgelaw20_OrderMirrors.mono _ _ _
   | exact selvedgelaw20_OrderResets.mono _ _ _ _ _ _
   | exact selvedgelaw20_OrderShows.mono _ _ _
   | exact selvedgelaw20_OrderTurns.mono _ _
   | exact selvedgelaw20_works.mono _
   | exact LeO.none _
   | refine LeO.ite ?_ ?_
   | refine LeO.bind ?_ (fun _ => ?_)
  ·intro y0 y1 y2 y3
   unfold selvedgelaw20_OrderKnown.l3
   repeat' first
   | (with_reducible exact ih0 _ _ _ _)
   | (with_reducible exact ih1 _ _ _)
   | (with_reducible exact ih2 _ _ _)
   | (with_reducible exact ih3 _ _ _ _)
   | (with_reducible exact ih4 _)
   | (with_reducible exact ih5 _ _ _)
   | (with_reducible exact ih6 _ _ _)
   | (with_reducible exact ih7 _ _ _)
   | (with_reducible exact selvedgelaw20_OrderMirrors.mono _ _ _)
   | (with_reducible exact selvedgelaw20_OrderResets.mono _ _ _ _ _ _)
   | (with_reducible exact selvedgelaw20_OrderShows.mono _ _ _)
   | (with_reducible exact selvedgelaw20_OrderTurns.mono _ _)
   | (with_reducible exact selvedgelaw20_works.mono _)
   | (with_reducible exact LeO.refl _)
   | (with_reducible exact LeO.none _)
   | (with_reducible refine LeO.ite ?_ ?_)
   | (with_reducible refine LeO.bind ?_ (fun _ => ?_))
   | exact ih0 _ _ _ _
   | exact ih1 _ _ _
   | exact ih2 _ _ _
   | exact ih3 _ _ _ _
   | exact ih4 _
   | exact ih5 _ _ _
   | exact ih6 _ _ _
   | exact ih7 _ _ _
   | exact selvedgelaw20_OrderMirrors.mono _ _ _
   | exact selvedgelaw20_OrderResets.mono _ _ _ _ _ _
   | exact selvedgelaw20_OrderShows.mono _ _ _
   | exact selvedgelaw20_OrderTurns.mono _ _
   | exact selvedgelaw20_works.mono _
   | exact LeO.none _
   | refine LeO.ite ?_ ?_
   | refine LeO.bind ?_ (fun _ => ?_)
  ·intro y0
   unfold selvedgelaw20_OrderKnown.j4
   repeat' first
   | (with_reducible exact ih0 _ _ _ _)
   | (with_reducible exact ih1 _ _ _)
   | (with_reducible exact ih2 _ _ _)
   | (with_reducible exact ih3 _ _ _ _)
   | (with_reducible exact ih4 _)
   | (with_reducible exact ih5 _ _ _)
   | (with_reducible exact ih6 _ _ _)
   | (with_reducible exact ih7 _ _ _)
   | (with_reducible exact selvedgelaw20_OrderMirrors.mono _ _ _)
   | (with_reducible exact selvedgelaw20_OrderResets.mono _ _ _ _ _ _)
   | (with_reducible exact selvedgelaw20_OrderShows.mono _ _ _)
   | (with_reducible exact selvedgelaw20_OrderTurns.mono _ _)
   | (with_reducible exact selvedgelaw20_works.mono _)
   | (with_reducible exact LeO.refl _)
   | (with_reducible exact LeO.none _)
   | (with_reducible refine LeO.ite ?_ ?_)
   | (with_reducible refine LeO.bind ?_ (fun _ => ?_))
   | exact ih0 _ _ _ _
   | exact ih1 _ _ _
   | exact ih2 _ _ _
   | exact ih3 _ _ _ _
   | exact ih4 _
   | exact ih5 _ _ _
   | exact ih6 _ _ _
   | exact ih7 _ _ _
   | exact selvedgelaw20_OrderMirrors.mono _ _ _
   | exact selvedgelaw20_OrderResets.mono _ _ _ _ _ _
   | exact selvedgelaw20_OrderShows.mono _ _ _
   | exact selvedgelaw20_OrderTurns.mono _ _
   | exact selvedgelaw20_works.mono _
   | exact LeO.none _
   | refine LeO.ite ?_ ?_
   | refine LeO.bind ?_ (fun _ => ?_)
  ·intro y0 y1 y2
   unfold selvedgelaw20_OrderKnown.l4
   repeat' first
   | (with_reducible exact ih0 _ _ _ _)
   | (with_reducible exact ih1 _ _ _)
   | (with_reducible exact ih2 _ _ _)
   | (with_reducible exact ih3 _ _ _ _)
   | (with_reducible exact ih4 _)
   | (with_reducible exact ih5 _ _ _)
   | (with_reducible exact ih6 _ _ _)
   | (with_reducible exact ih7 _ _ _)
   | (with_reducible exact selvedgelaw20_OrderMirrors.mono _ _ _)
   | (with_reducible exact selvedgelaw20_OrderResets.mono _ _ _ _ _ _)
   | (with_reducible exact selvedgelaw20_OrderShows.mono _ _ _)
   | (with_reducible exact selvedgelaw20_OrderTurns.mono _ _)
   | (with_reducible exact selvedgelaw20_works.mono _)
   | (with_reducible exact LeO.refl _)
   | (with_reducible exact LeO.none _)
   | (with_reducible refine LeO.ite ?_ ?_)
   | (with_reducible refine LeO.bind ?_ (fun _ => ?_))
   | exact ih0 _ _ _ _
   | exact ih1 _ _ _
   | exact ih2 _ _ _
   | exact ih3 _ _ _ _
   | exact ih4 _
   | exact ih5 _ _ _
   | exact ih6 _ _ _
   | exact ih7 _ _ _
   | exact selvedgelaw20_OrderMirrors.mono _ _ _
   | exact selvedgelaw20_OrderResets.mono _ _ _ _ _ _
   | exact selvedgelaw20_OrderShows.mono _ _ _
   | exact selvedgelaw20_OrderTurns.mono _ _
   | exact selvedgelaw20_works.mono _
   | exact LeO.none _
   | refine LeO.ite ?_ ?_
   | refine LeO.bind ?_ (fun _ => ?_)
  ·intro y0 y1 y2
   unfold selvedgelaw20_OrderKnown.l5
   repeat' first
   | (with_reducible exact ih0 _ _ _ _)
   | (with_reducible exact ih1 _ _ _)
   | (with_reducible exact ih2 _ _ _)
   | (with_reducible exact ih3 _ _ _ _)
   | (with_reducible exact ih4 _)
   | (with_reducible exact ih5 _ _ _)
   | (with_reducible exact ih6 _ _ _)
   | (with_reducible exact ih7 _ _ _)
   | (with_reducible exact selvedgelaw20_OrderMirrors.mono _ _ _)
   | (with_reducible exact selvedgelaw20_OrderResets.mono _ _ _ _ _ _)
   | (with_reducible exact selvedgelaw20_OrderShows.mono _ _ _)
   | (with_reducible exact selvedgelaw20_OrderTurns.mono _ _)
   | (with_reducible exact selvedgelaw20_works.mono _)
   | (with_reducible exact LeO.refl _)
   | (with_reducible exact LeO.none _)
   | (with_reducible refine LeO.ite ?_ ?_)
   | (with_reducible refine LeO.bind ?_ (fun _ => ?_))
   | exact ih0 _ _ _ _
   | exact ih1 _ _ _
   | exact ih2 _ _ _
   | exact ih3 _ _ _ _
   | exact ih4 _
   | exact ih5 _ _ _
   | exact ih6 _ _ _
   | exact ih7 _ _ _
   | exact selvedgelaw20_OrderMirrors.mono _ _ _
   | exact selvedgelaw20_OrderResets.mono _ _ _ _ _ _
   | exact selvedgelaw20_OrderShows.mono _ _ _
   | exact selvedgelaw20_OrderTurns.mono _ _
   | exact selvedgelaw20_works.mono _
   | exact LeO.none _
   | refine LeO.ite ?_ ?_
   | refine LeO.bind ?_ (fun _ => ?_)
  ·intro y0 y1 y2
   unfold selvedgelaw20_OrderKnown.l6
   repeat' first
   | (with_reducible exact ih0 _ _ _ _)
   | (with_reducible exact ih1 _ _ _)
   | (with_reducible exact ih2 _ _ _)
   | (with_reducible exact ih3 _ _ _ _)
   | (with_reducible exact ih4 _)
   | (with_reducible exact ih5 _ _ _)
   | (with_reducible exact ih6 _ _ _)
   | (with_reducible exact ih7 _ _ _)
   | (with_reducible exact selvedgelaw20_OrderMirrors.mono _ _ _)
   | (with_reducible exact selvedgelaw20_OrderResets.mono _ _ _ _ _ _)
   | (with_reducible exact selvedgelaw20_OrderShows.mono _ _ _)
   | (with_reducible exact selvedgelaw20_OrderTurns.mono _ _)
   | (with_reducible exact selvedgelaw20_works.mono _)
   | (with_reducible exact LeO.refl _)
   | (with_reducible exact LeO.none _)
   | (with_reducible refine LeO.ite ?_ ?_)
   | (with_reducible refine LeO.bind ?_ (fun _ => ?_))
   | exact ih0 _ _ _ _
   | exact ih1 _ _ _
   | exact ih2 _ _ _
   | exact ih3 _ _ _ _
   | exact ih4 _
   | exact ih5 _ _ _
   | exact ih6 _ _ _
   | exact ih7 _ _ _
   | exact selvedgelaw20_OrderMirrors.mono _ _ _
   | exact selvedgelaw20_OrderResets.mono _ _ _ _ _ _
   | exact selvedgelaw20_OrderShows.mono _ _ _
   | exact selvedgelaw20_OrderTurns.mono _ _
   | exact selvedgelaw20_works.mono _
   | exact LeO.none _
   | refine LeO.ite ?_ ?_
   | refine LeO.bind ?_ (fun _ => ?_)
theorem selvedgelaw20_OrderKnown.mono : ∀ k, LeO (selvedgelaw20_OrderKnown.f k ) (selvedgelaw20_OrderKnown.f (k + 1) ) := by
 intro  k
 obtain ⟨ih0, ih1, ih2, ih3, ih4, ih5, ih6, ih7⟩ := selvedgelaw20_OrderKnown.mono_l k
 unfold selvedgelaw20_OrderKnown.f
 repeat' first
   | (with_reducible exact ih0 _ _ _ _)
   | (with_reducible exact ih1 _ _ _)
   | (with_reducible exact ih2 _ _ _)
   | (with_reducible exact ih3 _ _ _ _)
   | (with_reducible exact ih4 _)
   | (with_reducible exact ih5 _ _ _)
   | (with_reducible exact ih6 _ _ _)
   | (with_reducible exact ih7 _ _ _)
   | (with_reducible exact selvedgelaw20_OrderMirrors.mono _ _ _)
   | (with_reducible exact selvedgelaw20_OrderResets.mono _ _ _ _ _ _)
   | (with_reducible exact selvedgelaw20_OrderShows.mono _ _ _)
   | (with_reducible exact selvedgelaw20_OrderTurns.mono _ _)
   | (with_reducible exact selvedgelaw20_works.mono _)
   | (with_reducible exact LeO.refl _)
   | (with_reducible exact LeO.none _)
   | (with_reducible refine LeO.ite ?_ ?_)
   | (with_reducible refine LeO.bind ?_ (fun _ => ?_))
   | exact ih0 _ _ _ _
   | exact ih1 _ _ _
   | exact ih2 _ _ _
   | exact ih3 _ _ _ _
   | exact ih4 _
   | exact ih5 _ _ _
   | exact ih6 _ _ _
   | exact ih7 _ _ _
   | exact selvedgelaw20_OrderMirrors.mono _ _ _
   | exact selvedgelaw20_OrderResets.mono _ _ _ _ _ _
   | exact selvedgelaw20_OrderShows.mono _ _ _
   | exact selvedgelaw20_OrderTurns.mono _ _
   | exact selvedgelaw20_works.mono _
   | exact LeO.none _
   | refine LeO.ite ?_ ?_
   | refine LeO.bind ?_ (fun _ => ?_)
set_option maxHeartbeats 80000000 in
set_option maxRecDepth 100000 in
theorem selvedgelaw20_OrderKnown.calls (k : Nat)  (r : Bool) (w : World) (h : selvedgelaw20_OrderKnown.f k  = some r) (hG : LaidW w := by first | exact hG | exact HG.out | exact LaidW.below HG.out (BB HB)) :
  Calls Tryd.prog 9 #[] w fun e w' => e = .returned (.bool r) ∧ Below w.heap.size w w' := by
 have HG := Aside0.mk hG; clear hG
 have HB := Aside0.mk (Below.refl w.heap.size w)
 have H : ((some (([97, 32, 9, 8233, 8295, 8294, 8296, 8297, 8234, 8235, 8236, 8237, 8238, 8203, 1488, 49, 40, 10] : List Int) : List Int)).bind fun y384 => (selvedgelaw20_OrderKnown.l0 k ([] : List Int) y384 (y384.length : Int) 0)) = some r := h
 clear h
 obtain ⟨y384, hy384⟩ : ∃ y_ : List Int, y_ = (([97, 32, 9, 8233, 8295, 8294, 8296, 8297, 8234, 8235, 8236, 8237, 8238, 8203, 1488, 49, 40, 10] : List Int)) := ⟨_, rfl⟩
 replace H : (selvedgelaw20_OrderKnown.l0 k ([] : List Int) y384 (y384.length : Int) 0) = some r := by first | (rw [hy384]; with_reducible exact H) | (have H2_ := (Option.bind_some _ _).symm.trans H; rw [hy384]; with_reducible exact H2_) | (have H2_ := (Option.bind_some _ _).symm.trans H; with_reducible exact H2_) | with_reducible exact H | (rw [hy384]; exact H) | exact H
 have Ny384 := Aside0.mk hy384; clear hy384
 have H' := Aside0.mk H
 clear H
 go_enter Tryd.func9, Tryd.ntmps9
 go_wp2_with (first | ((with_reducible refine gate_dst (N := 14) rfl ?_); (try (refine gate_guard (by rfl) ?_; dsimp only)); refine Kd.R_lit (Kd.int .i32) _ 21 ?hg (N := 14) ?hd (xs := ([97, 32, 9, 8233, 8295, 8294, 8296, 8297, 8234, 8235, 8236, 8237, 8238, 8203, 1488, 49, 40, 10] : List Int)) (inner := [.int .i32 97, .int .i32 32, .int .i32 9, .int .i32 8233, .int .i32 8295, .int .i32 8294, .int .i32 8296, .int .i32 8297, .int .i32 8234, .int .i32 8235, .int .i32 8236, .int .i32 8237, .int .i32 8238, .int .i32 8203, .int .i32 1488, .int .i32 49, .int .i32 40, .int .i32 10]) (ok := fun _ => True) (okp := fun _ => True) ?hr ?hp (fun _ hk => hk) trivial (Below.refl _ _) (Nat.le_refl _) (by simp) ?_; (case hd => rfl); (case hg => rfl); (case hr => first | (go_simp; done) | (go_simp; rfl)); (case hp => exact (Reps.one (show Kd.M (Kd.int .i32) _ _ _ 97 [.int .i32 97] from rfl) (Reps.one (show Kd.M (Kd.int .i32) _ _ _ 32 [.int .i32 32] from rfl) (Reps.one (show Kd.M (Kd.int .i32) _ _ _ 9 [.int .i32 9] from rfl) (Reps.one (show Kd.M (Kd.int .i32) _ _ _ 8233 [.int .i32 8233] from rfl) (Reps.one (show Kd.M (Kd.int .i32) _ _ _ 8295 [.int .i32 8295] from rfl) (Reps.one (show Kd.M (Kd.int .i32) _ _ _ 8294 [.int .i32 8294] from rfl) (Reps.one (show Kd.M (Kd.int .i32) _ _ _ 8296 [.int .i32 8296] from rfl) (Reps.one (show Kd.M (Kd.int .i32) _ _ _ 8297 [.int .i32 8297] from rfl) (Reps.one (show Kd.M (Kd.int .i32) _ _ _ 8234 [.int .i32 8234] from rfl) (Reps.one (show Kd.M (Kd.int .i32) _ _ _ 8235 [.int .i32 8235] from rfl) (Reps.one (show Kd.M (Kd.int .i32) _ _ _ 8236 [.int .i32 8236] from rfl) (Reps.one (show Kd.M (Kd.int .i32) _ _ _ 8237 [.int .i32 8237] from rfl) (Reps.one (show Kd.M (Kd.int .i32) _ _ _ 8238 [.int .i32 8238] from rfl) (Reps.one (show Kd.M (Kd.int .i32) _ _ _ 8203 [.int .i32 8203] from rfl) (Reps.one (show Kd.M (Kd.int .i32) _ _ _ 1488 [.int .i32 1488] from rfl) (Reps.one (show Kd.M (Kd.int .i32) _ _ _ 49 [.int .i32 49] from rfl) (Reps.one (show Kd.M (Kd.int .i32) _ _ _ 40 [.int .i32 40] from rfl) (Reps.one (show Kd.M (Kd.int .i32) _ _ _ 10 [.int .i32 10] from rfl) (Reps.none _ _)))))))))))))))))))); intro v385 w1 ho2 hb hg_ hnew_; clear hg_ hnew_; (first | rw [← Ny384.out] at ho2 | (simp only [Int.reduceToNat] at ho2; rw [← Ny384.out] at ho2)); have n0_ := Aside0.mk (Kd.R_lower ho2 (below_size (BB HB))); have n1_ := Aside0.mk (below_step (BB HB) hb); clear HB; have HO386 := n0_; have HB := n1_; clear n0_ n1_; clear hb ho2; obtain ⟨Ao3, co3, eo3⟩ := Kd.R_slice HO386.out; subst eo3))
 go_loopg [1, 16] k (fun kq v1 v16 w' => ∃ (x1_1 : List Int) (x16_1 : Int), v16 = .int .i64 x16_1 ∧ Aside0 (selvedgelaw20_OrderKnown.l0 kq x1_1 y384 (y384.length : Int) x16_1 = some r) ∧ Aside0 (kq ≤ k) ∧ Aside0 (Kd.R (Kd.int .i32) 21 w' w.heap.size (fun k_ => some k_ ≠ ((.slice Ao3 y384.length co3) : Value).ownBlock) v1 x1_1) ∧ Aside0 (Kd.R (Kd.int .i32) 21 w' w.heap.size (fun k_ => some k_ ≠ (v1 : Value).ownBlock) (.slice Ao3 y384.length co3) y384) ∧ Aside0 (Below w.heap.size w w'))
 case atStart => exact ⟨(([] : List Int)), (0), (by first | rfl | (simp; done) | (simp [*]; done)), H', ⟨Nat.le_refl _⟩, ⟨by first | exact Kd.R_nil _ _ _ _ _ | exact Kd.N_nil _ _ _ _ _ | exact Kd.V_nil _ _ _ _ _ | exact Kd.Q_nil _ _ _ _ _ | exact Kd.S_nil _ _ _ _ _⟩, ⟨by (with_reducible repeat (first | apply Kd.R_alloc | apply Kd.R_drewN | apply Kd.R_drew)); exact Kd.R_mono HO386.out (fun _ hk => (by simp [Value.ownBlock]))⟩, ⟨BB HB⟩⟩
 case round =>
  clear H'
  try clear p2
  obtain ⟨x1_1, x16_1, rfl, HA, HK1, HO_1, HO_14, HB⟩ := hrel
  cases gk with
  | zero => exact absurd HA.out (by simp [selvedgelaw20_OrderKnown.l0])
  | succ k1 =>
   have H := HA.out
   clear HA
   simp only [selvedgelaw20_OrderKnown.l0] at H
   by_cases c4 : x16_1 < (y384.length : Int)
   ·rw [if_pos c4] at H; have c4b0 : decide (x16_1 < (y384.length : Int)) = true := decide_eq_true c4; clear c4; by_cases c5 : 0 ≤ x16_1
    ·rw [if_pos c5] at H; have c5b0 : decide (0 ≤ x16_1) = true := decide_eq_true c5; clear c5; by_cases c6 : x16_1 < (y384.length : Int)
     ·rw [if_pos c6] at H; have c6b0 : decide (x16_1 < (y384.length : Int)) = true := decide_eq_true c6; clear c6
      obtain ⟨y388, hy388⟩ : ∃ y_ : List Int, y_ = (([rd y384 x16_1, 32, 98] : List Int)) := ⟨_, rfl⟩
      replace H : (if x1_1.length + y388.length < 35184372088832 then (selvedgelaw20_OrderKnown.l0 k1 (x1_1 ++ y388) y384 (y384.length : Int) (wrap64 (x16_1 + 1))) else (none)) = some r := by first | (rw [hy388]; with_reducible exact H) | (have H2_ := (Option.bind_some _ _).symm.trans H; rw [hy388]; with_reducible exact H2_) | (have H2_ := (Option.bind_some _ _).symm.trans H; with_reducible exact H2_) | with_reducible exact H | (rw [hy388]; exact H) | exact H
      have Ny388 := Aside0.mk hy388; clear hy388; by_cases c7 : x1_1.length + y388.length < 35184372088832
      ·rw [if_pos c7] at H; have LMc7 := Aside0.mk c7; clear c7
       obtain ⟨y391, hy391⟩ : ∃ y_ : List Int, y_ = (x1_1 ++ y388) := ⟨_, rfl⟩
       replace H : (selvedgelaw20_OrderKnown.l0 k1 y391 y384 (y384.length : Int) (wrap64 (x16_1 + 1))) = some r := by first | (rw [hy391]; with_reducible exact H) | (have H2_ := (Option.bind_some _ _).symm.trans H; rw [hy391]; with_reducible exact H2_) | (have H2_ := (Option.bind_some _ _).symm.trans H; with_reducible exact H2_) | with_reducible exact H | (rw [hy391]; exact H) | exact H
       have Ny391 := Aside0.mk hy391; clear hy391
       have H' := Aside0.mk H
       clear H
       have p387 : 0 ≤ (x16_1 : Int) := of_decide_eq_true (by first | (with_reducible assumption) | assumption)
       have q387 : x16_1 < (y384.length : Int) := of_decide_eq_true (by first | (with_reducible assumption) | assumption)
       obtain ⟨ad387, e387, hx387_0⟩ := Kd.at_int (Kd.R_reads' HO_14.out).2.2 x16_1 p387 q387
       cases e387
       replace p387 := eq_true p387; replace q387 := eq_true q387
       go_wp2_with (first | ((with_reducible refine gate_dst (N := 22) rfl ?_); (try (refine gate_guard (by rfl) ?_; dsimp only)); refine Kd.R_lit (Kd.int .i32) _ 21 ?hg (N := 22) ?hd (xs := ([rd y384 x16_1, 32, 98] : List Int)) (inner := [.int .i32 (rd y384 x16_1), .int .i32 32, .int .i32 98]) (ok := fun _ => True) (okp := fun _ => True) ?hr ?hp (fun _ hk => hk) trivial (Below.refl _ _) (Nat.le_refl _) (by simp) ?_; (case hd => rfl); (case hg => rfl); (case hr => first | (go_simp; done) | (go_simp; rfl)); (case hp => exact (Reps.one (show Kd.M (Kd.int .i32) _ _ _ (rd y384 x16_1) [.int .i32 (rd y384 x16_1)] from rfl) (Reps.one (show Kd.M (Kd.int .i32) _ _ _ 32 [.int .i32 32] from rfl) (Reps.one (show Kd.M (Kd.int .i32) _ _ _ 98 [.int .i32 98] from rfl) (Reps.none _ _))))); intro v389 w8 ho9 hb hg_ hnew_; clear hg_ hnew_; (first | rw [← Ny388.out] at ho9 | (simp only [Int.reduceToNat] at ho9; rw [← Ny388.out] at ho9)); have n0_ := Aside0.mk (Kd.R_elder' (RR HO_1) (Kd.R_base ho9) hb); have n1_ := Aside0.mk (Kd.R_elder' (RR HO_14) (Kd.R_base ho9) hb); have n2_ := Aside0.mk (Kd.R_lower (Kd.R_new' (Kd.R_new' ho9 (Kd.R_lt (RR HO_1))) (Kd.R_lt (RR HO_14))) (below_size (BB HB))); have n3_ := Aside0.mk (below_step (BB HB) hb); clear HO_1; clear HO_14; clear HB; have HO_1 := n0_; have HO_14 := n1_; have HO390 := n2_; have HB := n3_; clear n0_ n1_ n2_ n3_; clear hb ho9; obtain ⟨Ao11, co11, eo11⟩ := Kd.R_slice HO390.out; subst eo11) | ((with_reducible refine gate_builtin (b := .append) (xs := #[.tmp 20, .tmp 22]) rfl ?_); (try (refine gate_guard (by rfl) ?_; dsimp only)); at_builtin; refine Kd.R_append_rows (Kd.int .i32) (w0 := w) w.heap.size rfl (.tmp 20) (.tmp 22) 22 21 (.int .i32 0) 4 rfl Tryd.underlying22 info21 rfl (by decide) (by omega) u1 x1_1 y388 _ _ _ (fun k_ => some k_ ≠ (.slice (some ad387) y384.length co3 : Value).ownBlock ∧ some k_ ≠ (.slice Ao11 y388.length co11 : Value).ownBlock) (fun _ => False) rfl rfl ?aO ?aR (fun _ _ h => h) (fun _ h => h.elim) ?aF ?aB ?aS ?aL ?_; (case aR => repeat (first | exact (Kd.R_reads' HO390.out).2.2 | (with_reducible refine Kd.C_alloc ?_ _) | (with_reducible refine Kd.C_drewN ?_ _) | (with_reducible refine Kd.C_drew ?_))); (case aB => exact (BB HB)); (case aF => exact (fun k_ hk => ⟨Kd.fresh' (Kd.R_lt (RR HO_14)) k_ hk, Kd.fresh' (Kd.R_lt (RR HO390)) k_ hk⟩)); (case aO => exact (RR HO_1)); (case aS => exact (below_size (BB HB))); (case aL => have := LMc7.out; omega); intro v392 w10 ho hb hg hat; rw [← Ny391.out] at ho; have n0_ := Aside0.mk (Kd.R_after (ok := (fun k_ => some k_ ≠ (.slice Ao11 y388.length co11 : Value).ownBlock)) (by (with_reducible repeat (first | apply Kd.R_alloc | apply Kd.R_drewN | apply Kd.R_drew)); exact Kd.R_mono HO_14.out (fun _ hk => ⟨hk.2, hk.1⟩)) hg hat); have n1_ := Aside0.mk (Kd.R_after (ok := (fun k_ => some k_ ≠ (.slice (some ad387) y384.length co3 : Value).ownBlock)) (by (with_reducible repeat (first | apply Kd.R_alloc | apply Kd.R_drewN | apply Kd.R_drew)); exact Kd.R_mono HO390.out (fun _ hk => ⟨hk.2, hk.1.2⟩)) hg hat); have n2_ := Aside0.mk (hb); have n3_ := Aside0.mk (ho); clear HO_14; clear HO390; clear HB; clear HO_1; have HO_14 := n0_; have HO390 := n1_; have HB := n2_; have HO393 := n3_; clear n0_ n1_ n2_ n3_; clear ho hb hg hat))
       go_roundg k1
       case measure => have := HK1.out; omega
       case rel => exact ⟨(y391), (wrap64 (x16_1 + 1)), (by first | rfl | (simp; done) | (simp [*]; done)), H', ⟨by have := HK1.out; omega⟩, ⟨by (with_reducible repeat (first | apply Kd.R_alloc | apply Kd.R_drewN | apply Kd.R_drew)); exact Kd.R_mono HO393.out (fun _ hk => hk.1)⟩, ⟨by (with_reducible repeat (first | apply Kd.R_alloc | apply Kd.R_drewN | apply Kd.R_drew)); exact Kd.R_mono HO_14.out (fun _ hk => hk.2)⟩, ⟨BB HB⟩⟩
      ·rw [if_neg c7] at H
       exact absurd H (by simp)
     ·rw [if_neg c6] at H
      exact absurd H (by simp)
    ·rw [if_neg c5] at H
     exact absurd H (by simp)
   ·rw [if_neg c4] at H; have c4b0 : decide (x16_1 < (y384.length : Int)) = false := decide_eq_false c4; clear c4; by_cases c12 : 0 ≤ (x1_1.length : Int)
    ·rw [if_pos c12] at H
     have c12b0 := eq_true c12
     have c12b1 : decide (0 ≤ (x1_1.length : Int)) = true := decide_eq_true c12; clear c12; by_cases c13 : ((x1_1.length : Int) : Int).toNat ≤ 281474976710656
     ·rw [if_pos c13] at H
      have c13b0 := eq_true c13
      have c13b1 : decide (((x1_1.length : Int) : Int).toNat ≤ 281474976710656) = true := decide_eq_true c13; clear c13
      obtain ⟨y394, hy394⟩ : ∃ y_ : List Int, y_ = (List.replicate ((x1_1.length : Int) : Int).toNat 0) := ⟨_, rfl⟩
      replace H : (selvedgelaw20_OrderKnown.l1 k1 x1_1 y394 0) = some r := by first | (rw [hy394]; with_reducible exact H) | (have H2_ := (Option.bind_some _ _).symm.trans H; rw [hy394]; with_reducible exact H2_) | (have H2_ := (Option.bind_some _ _).symm.trans H; with_reducible exact H2_) | with_reducible exact H | (rw [hy394]; exact H) | exact H
      have Ny394 := Aside0.mk hy394; clear hy394
      have H' := Aside0.mk H
      clear H
      obtain ⟨Ao14, co14, eo14⟩ := Kd.R_slice HO_1.out
      subst eo14
      go_wp2_with (first | ((with_reducible refine gate_dst (N := 27) rfl ?_); (try (refine gate_guard (by rfl) ?_; dsimp only)); refine Kd.R_make (Kd.int .u8) _ 5 rfl (N := 27) rfl 23 _ _ rfl (x1_1.length : Int) rfl rfl Tryd.underlying23 (.int .u8 0) 1 info5 rfl (by decide) (by omega) 0 (ok := fun _ => True) (okp := fun _ => True) rfl (fun _ hk => hk) trivial (of_decide_eq_true (by first | (with_reducible assumption) | assumption)) (Nat.le_trans (Nat.mul_le_mul_right _ (of_decide_eq_true (by first | (with_reducible assumption) | assumption) : (x1_1.length : Int).toNat ≤ 281474976710656)) (by omega)) (Below.refl _ _) (Nat.le_refl _) ?_; intro v395 w15 ho16 hb hg_ hnew_; clear hg_ hnew_; (first | rw [← Ny394.out] at ho16 | (simp only [Int.reduceToNat] at ho16; rw [← Ny394.out] at ho16)); have n0_ := Aside0.mk (Kd.R_below (RR HO_1) hb); have n1_ := Aside0.mk (Kd.R_below (RR HO_14) hb); have n2_ := Aside0.mk (Kd.R_lower ho16 (below_size (BB HB))); have n3_ := Aside0.mk (below_step (BB HB) hb); clear HO_1; clear HO_14; clear HB; have HO_1 := n0_; have HO_14 := n1_; have HO396 := n2_; have HB := n3_; clear n0_ n1_ n2_ n3_; clear hb ho16))
      go_loopg [5] k1 (fun kq v5 w' => ∃ (x4_2 : List Int) (x5_2 : Int), v5 = .int .i64 x5_2 ∧ Aside0 (selvedgelaw20_OrderKnown.l1 kq x1_1 x4_2 x5_2 = some r) ∧ Aside0 (kq ≤ k1) ∧ Aside0 (Kd.R (Kd.int .i32) 21 w' w.heap.size (fun _ => True) (.slice Ao14 x1_1.length co14) x1_1) ∧ Aside0 (Kd.R (Kd.int .u8) 5 w' w.heap.size (fun _ => True) v395 x4_2) ∧ Aside0 (Below w.heap.size w w'))
      case atStart => exact ⟨(y394), (0), (by first | rfl | (simp; done) | (simp [*]; done)), H', ⟨Nat.le_refl _⟩, ⟨by (with_reducible repeat (first | apply Kd.R_alloc | apply Kd.R_drewN | apply Kd.R_drew)); exact Kd.R_mono HO_1.out (fun _ hk => trivial)⟩, ⟨RR HO396⟩, ⟨BB HB⟩⟩
      case round =>
       clear H'
       (try clear c1); (try clear p2); (try clear p3); (try clear q3); (try clear hx3); (try clear c4); (try clear c4b0); (try clear c5); (try clear c5b0); (try clear c6); (try clear c6b0); (try clear p6); (try clear c7); (try clear c9); (try clear c12); (try clear c12b0); (try clear c12b1); (try clear c13); (try clear c13b0); (try clear c13b1); (try clear hx387_0); (try clear p2); (try clear p387); (try clear q387)
       obtain ⟨x4_2, x5_2, rfl, HA, HK2, HO_1, HO_4, HB⟩ := hrel
       cases gk with
       | zero => exact absurd HA.out (by simp [selvedgelaw20_OrderKnown.l1])
       | succ k2 =>
        have H := HA.out
        clear HA
        simp only [selvedgelaw20_OrderKnown.l1] at H
        by_cases c17 : x5_2 < (x4_2.length : Int)
        ·rw [if_pos c17] at H; have c17b0 : decide (x5_2 < (x4_2.length : Int)) = true := decide_eq_true c17; clear c17; by_cases c18 : 0 ≤ x5_2
         ·rw [if_pos c18] at H; have c18b0 : decide (0 ≤ x5_2) = true := decide_eq_true c18; clear c18
          obtain ⟨y397, hy397⟩ : ∃ y_ : List Int, y_ = (x4_2.set (x5_2 : Int).toNat ((Int.tmod x5_2 5) % 256)) := ⟨_, rfl⟩
          replace H : (selvedgelaw20_OrderKnown.l1 k2 x1_1 y397 (wrap64 (x5_2 + 1))) = some r := by first | (rw [hy397]; with_reducible exact H) | (have H2_ := (Option.bind_some _ _).symm.trans H; rw [hy397]; with_reducible exact H2_) | (have H2_ := (Option.bind_some _ _).symm.trans H; with_reducible exact H2_) | with_reducible exact H | (rw [hy397]; exact H) | exact H
          have Ny397 := Aside0.mk hy397; clear hy397
          have H' := Aside0.mk H
          clear H
          obtain ⟨Ao20, co20, eo20⟩ := Kd.R_slice HO_4.out
          subst eo20
          have p19 : 0 ≤ (x5_2 : Int) := of_decide_eq_true (by first | (with_reducible assumption) | assumption)
          have q19 : (x5_2 : Int) < ((x4_2.length : Int) : Int) := of_decide_eq_true (by first | (with_reducible assumption) | assumption)
          obtain ⟨go19, co19, eo19, gb19, gl19, cl19, HG19⟩ := Kd.R_form HO_4.out (by omega)
          (first | cases eo19 | (injection eo19 with ea_ en_ ec_; (first | subst ea_ | (injection ea_ with ea_; subst ea_)); subst ec_; clear en_))
          have GB19 := Aside0.mk gb19; have GG19 := Aside0.mk HG19; clear gb19 gl19 HG19
          obtain ⟨hx19_0, hf19_0⟩ := Kd.R_celln 0 HO_4.out (x5_2 : Int) p19 q19
          replace p19 := eq_true p19; replace q19 := eq_true q19
          have HP21 := Kd.R_putg HO_4.out (x5_2 : Int) ((Int.tmod x5_2 5) % 256)
          go_wp2_with (first | ((with_reducible refine gate_store (t := 5) (p := 39) rfl ?_); refine store_event (t := 5) (p := 39) (v := ?vo_w22) (w1 := (wr.setCell ⟨go19, (x5_2 : Int).toNat, none⟩ (.int .u8 ((Int.tmod x5_2 5) % 256)))) ?hg ?ho ?hn ?hr ?_; (case ho => rfl); (case hg => rfl); (case hn => rfl); (case hr => first | (go_simp; done) | (go_simp; rfl)); intro w22 hw; have hg : wr.grownBy w22 (some go19) := (by rw [hw]; exact HP21.2); have hp_ : Kd.R (Kd.int .u8) 5 w22 w.heap.size (fun _ => True) (.slice (some ⟨go19, 0, none⟩) x4_2.length co20) y397 := (by rw [hw, Ny397.out]; exact HP21.1); clear HP21; have n0_ := Aside0.mk (Kd.R_over' (v := (.slice (some ⟨go19, 0, none⟩) x4_2.length co20)) (RR HO_1) (Kd.R_typed HO_4.out) (by decide) hg); have n1_ := Aside0.mk (hp_); have n2_ := Aside0.mk ((by rw [hw]; exact below_set (HB.out) GB19.out : Below w.heap.size w w22)); clear HO_1; clear HO_4; clear HB; have HO_1 := n0_; have HO_4 := n1_; have HB := n2_; clear n0_ n1_ n2_; clear hg hw hp_))
          go_roundg k2
          case measure => have := HK1.out; have := HK2.out; omega
          case rel => exact ⟨(y397), (wrap64 (x5_2 + 1)), (by first | rfl | (simp; done) | (simp [*]; done)), H', ⟨by have := HK1.out; have := HK2.out; omega⟩, ⟨RR HO_1⟩, ⟨RR HO_4⟩, ⟨BB HB⟩⟩
         ·rw [if_neg c18] at H
          exact absurd H (by simp)
        ·rw [if_neg c17] at H; have c17b0 : decide (x5_2 < (x4_2.length : Int)) = false := decide_eq_false c17; clear c17
         have H' := Aside0.mk H
         clear H
         obtain ⟨Ao23, co23, eo23⟩ := Kd.R_slice HO_4.out
         subst eo23
         go_wp2
         go_loopg [6] k2 (fun kq v6 w' => ∃ (x6_3 : Int), v6 = .int .i64 x6_3 ∧ Aside0 (selvedgelaw20_OrderKnown.l2 kq x1_1 x4_2 x6_3 = some r) ∧ Aside0 (kq ≤ k2) ∧ Aside0 (Kd.R (Kd.int .i32) 21 w' w.heap.size (fun _ => True) (.slice Ao14 x1_1.length co14) x1_1) ∧ Aside0 (Kd.R (Kd.int .u8) 5 w' w.heap.size (fun _ => True) (.slice Ao23 x4_2.length co23) x4_2) ∧ Aside0 (Below w.heap.size w w'))
         case atStart => exact ⟨((-1)), (by first | rfl | (simp; done) | (simp [*]; done)), H', ⟨Nat.le_refl _⟩, ⟨RR HO_1⟩, ⟨RR HO_4⟩, ⟨BB HB⟩⟩
         case round =>
          clear H'
          (try clear c1); (try clear p1); (try clear q1); (try clear hx1); (try clear hf1); (try clear p2); (try clear p3); (try clear q3); (try clear hx3); (try clear c4); (try clear c4b0); (try clear c5); (try clear c5b0); (try clear c6); (try clear c6b0); (try clear p6); (try clear c7); (try clear c9); (try clear c12); (try clear c12b0); (try clear c12b1); (try clear c13); (try clear c13b0); (try clear c13b1); (try clear c17); (try clear c17b0); (try clear c18); (try clear c18b0); (try clear p19); (try clear q19); (try clear hx19); (try clear hf19); (try clear hx19_0); (try clear hx387_0); (try clear p19); (try clear p2); (try clear p3); (try clear p387); (try clear p6); (try clear q19); (try clear q3); (try clear q387)
          obtain ⟨x6_3, rfl, HA, HK3, HO_1, HO_4, HB⟩ := hrel
          cases gk with
          | zero => exact absurd HA.out (by simp [selvedgelaw20_OrderKnown.l2])
          | succ k3 =>
           have H := HA.out
           clear HA
           simp only [selvedgelaw20_OrderKnown.l2] at H
           by_cases c24 : x6_3 < (x1_1.length : Int)
           ·rw [if_pos c24] at H; have c24b0 : decide (x6_3 < (x1_1.length : Int)) = true := decide_eq_true c24; clear c24
            have H' := Aside0.mk H
            clear H
            go_wp2
            go_loopg [7] k3 (fun kq v7 w' => ∃ (x7_4 : Int), v7 = .int .i64 x7_4 ∧ Aside0 (selvedgelaw20_OrderKnown.l3 kq x1_1 x4_2 x6_3 x7_4 = some r) ∧ Aside0 (kq ≤ k3) ∧ Aside0 (Kd.R (Kd.int .i32) 21 w' w.heap.size (fun _ => True) (.slice Ao14 x1_1.length co14) x1_1) ∧ Aside0 (Kd.R (Kd.int .u8) 5 w' w.heap.size (fun _ => True) (.slice Ao23 x4_2.length co23) x4_2) ∧ Aside0 (Below w.heap.size w w'))
            case atStart => exact ⟨(wrap64 (x6_3 - 1)), (by first | rfl | (simp; done) | (simp [*]; done)), H', ⟨Nat.le_refl _⟩, ⟨RR HO_1⟩, ⟨RR HO_4⟩, ⟨BB HB⟩⟩
            case round =>
             clear H'
             (try clear c1); (try clear p1); (try clear q1); (try clear hx1); (try clear hf1); (try clear c2); (try clear p2); (try clear p3); (try clear q3); (try clear hx3); (try clear c4); (try clear c4b0); (try clear c5); (try clear c5b0); (try clear c6); (try clear c6b0); (try clear p6); (try clear c7); (try clear c9); (try clear c12); (try clear c12b0); (try clear c12b1); (try clear c13); (try clear c13b0); (try clear c13b1); (try clear c17); (try clear c17b0); (try clear c18); (try clear c18b0); (try clear p19); (try clear q19); (try clear hx19); (try clear hf19); (try clear c24); (try clear c24b0); (try clear hx19_0); (try clear hx387_0); (try clear p1); (try clear p19); (try clear p2); (try clear p3); (try clear p387); (try clear p6); (try clear q1); (try clear q19); (try clear q3); (try clear q387)
             obtain ⟨x7_4, rfl, HA, HK4, HO_1, HO_4, HB⟩ := hrel
             cases gk with
             | zero => exact absurd HA.out (by simp [selvedgelaw20_OrderKnown.l3])
             | succ k4 =>
              have H := HA.out
              clear HA
              simp only [selvedgelaw20_OrderKnown.l3] at H
              by_cases c25 : x7_4 ≤ (wrap64 ((x1_1.length : Int) + 1))
              ·rw [if_pos c25] at H; have c25b0 : decide (x7_4 ≤ (wrap64 ((x1_1.length : Int) + 1))) = true := decide_eq_true c25; clear c25; replace H := Option.bind_eq_some_iff.mp H; obtain ⟨t398, A260, H⟩ := H
               replace H : (if t398 = true then (selvedgelaw20_OrderKnown.l3 k4 x1_1 x4_2 x6_3 (wrap64 (x7_4 + 1))) else (some false)) = some r := H
               have A26 := Aside0.mk A260; clear A260; by_cases c27 : t398 = true
               ·subst c27
                have H1 : (selvedgelaw20_OrderKnown.l3 k4 x1_1 x4_2 x6_3 (wrap64 (x7_4 + 1))) = some r := by rw [if_pos rfl] at H; exact H
                clear H
                have H := H1
                clear H1
                have H' := Aside0.mk H
                clear H
                go_wp2_with (first | ((with_reducible refine gate_callee (f := 3) rfl ?_); refine goesL_ (some 62) rfl rfl Tryd.func3 (by kernel_rfl) rfl #[.slice Ao14 x1_1.length co14, .slice Ao23 x4_2.length co23, .int .u8 ((Go.bits .and .i64 x7_4 1) % 256), .int .i64 x6_3, .int .i64 x7_4] rfl (by (try simp only [List.map_toArray, List.map_cons, List.map_nil]); first | done | rfl | (simp only [List.length_drop, List.length_take]; rfl)) ?_; (with_reducible refine (selvedgelaw20_OrderResets.calls k4 _ _ x1_1 _ _ x4_2 ((Go.bits .and .i64 x7_4 1) % 256) x6_3 x7_4 true _ ?side1 ?side2 ?side3 ?side4 A26.out).mono ?_); (case side1 => repeat (first | exact (Kd.R_reads' HO_1.out).2.2 | (with_reducible refine Kd.C_alloc ?_ _) | (with_reducible refine Kd.C_drewN ?_ _) | (with_reducible refine Kd.C_drew ?_))); (case side2 => exact (Kd.R_reads' HO_1.out).2.1); (case side3 => repeat (first | exact (Kd.R_reads' HO_4.out).2.2 | (with_reducible refine Kd.C_alloc ?_ _) | (with_reducible refine Kd.C_drewN ?_ _) | (with_reducible refine Kd.C_drew ?_))); (case side4 => exact (Kd.R_reads' HO_4.out).2.1); rintro e w28 ⟨rfl, hb⟩; refine ⟨_, rfl, ?_⟩; have n0_ := Aside0.mk (Kd.R_below (RR HO_1) hb); have n1_ := Aside0.mk (Kd.R_below (RR HO_4) hb); have n2_ := Aside0.mk (below_step (BB HB) hb); clear HO_1; clear HO_4; clear HB; have HO_1 := n0_; have HO_4 := n1_; have HB := n2_; clear n0_ n1_ n2_; (try clear hb); (try clear hb2); (try clear hk); (try clear hi)))
                go_roundg k4
                case measure => have := HK1.out; have := HK2.out; have := HK3.out; have := HK4.out; omega
                case rel => exact ⟨(wrap64 (x7_4 + 1)), (by first | rfl | (simp; done) | (simp [*]; done)), H', ⟨by have := HK1.out; have := HK2.out; have := HK3.out; have := HK4.out; omega⟩, ⟨RR HO_1⟩, ⟨RR HO_4⟩, ⟨BB HB⟩⟩
               ·replace c27 := Bool.eq_false_iff.mpr c27
                subst c27
                have H1 : (some false) = some r := by rw [if_neg (show ¬ (false = true) by decide)] at H; exact H
                clear H
                have H := H1
                clear H1; obtain rfl := Option.some.inj H
                go_wp2_with (first | ((with_reducible refine gate_callee (f := 3) rfl ?_); refine goesL_ (some 62) rfl rfl Tryd.func3 (by kernel_rfl) rfl #[.slice Ao14 x1_1.length co14, .slice Ao23 x4_2.length co23, .int .u8 ((Go.bits .and .i64 x7_4 1) % 256), .int .i64 x6_3, .int .i64 x7_4] rfl (by (try simp only [List.map_toArray, List.map_cons, List.map_nil]); first | done | rfl | (simp only [List.length_drop, List.length_take]; rfl)) ?_; (with_reducible refine (selvedgelaw20_OrderResets.calls k4 _ _ x1_1 _ _ x4_2 ((Go.bits .and .i64 x7_4 1) % 256) x6_3 x7_4 false _ ?side1 ?side2 ?side3 ?side4 A26.out).mono ?_); (case side1 => repeat (first | exact (Kd.R_reads' HO_1.out).2.2 | (with_reducible refine Kd.C_alloc ?_ _) | (with_reducible refine Kd.C_drewN ?_ _) | (with_reducible refine Kd.C_drew ?_))); (case side2 => exact (Kd.R_reads' HO_1.out).2.1); (case side3 => repeat (first | exact (Kd.R_reads' HO_4.out).2.2 | (with_reducible refine Kd.C_alloc ?_ _) | (with_reducible refine Kd.C_drewN ?_ _) | (with_reducible refine Kd.C_drew ?_))); (case side4 => exact (Kd.R_reads' HO_4.out).2.1); rintro e w29 ⟨rfl, hb⟩; refine ⟨_, rfl, ?_⟩; have n0_ := Aside0.mk (Kd.R_below (RR HO_1) hb); have n1_ := Aside0.mk (Kd.R_below (RR HO_4) hb); have n2_ := Aside0.mk (below_step (BB HB) hb); clear HO_1; clear HO_4; clear HB; have HO_1 := n0_; have HO_4 := n1_; have HB := n2_; clear n0_ n1_ n2_; (try clear hb); (try clear hb2); (try clear hk); (try clear hi)))
                go_ret
                exact ⟨FF, BB HB⟩
              ·rw [if_neg c25] at H; have c25b0 : decide (x7_4 ≤ (wrap64 ((x1_1.length : Int) + 1))) = false := decide_eq_false c25; clear c25
               have H' := Aside0.mk H
               clear H
               go_wp2
               go_roundg k4
               case measure => have := HK1.out; have := HK2.out; have := HK3.out; have := HK4.out; omega
               case rel => exact ⟨(wrap64 (x6_3 + 5)), (by first | rfl | (simp; done) | (simp [*]; done)), H', ⟨by have := HK1.out; have := HK2.out; have := HK3.out; have := HK4.out; omega⟩, ⟨RR HO_1⟩, ⟨RR HO_4⟩, ⟨BB HB⟩⟩
           ·rw [if_neg c24] at H; have c24b0 : decide (x6_3 < (x1_1.length : Int)) = false := decide_eq_false c24; clear c24; have HC30 := Aside0.mk H; clear H
            go_upto_region 20 with (fail)
            go_cut [95] (fun v95 wc => ∃ (kq : Nat) (x95_29 : Bool), v95 = .bool x95_29 ∧ Aside0 (selvedgelaw20_OrderKnown.j4 kq x95_29 = some r) ∧ Aside0 (kq ≤ k3) ∧ Aside0 (Below w.heap.size w wc))
            case first =>
             have H := HC30.out
             clear HC30; by_cases c31 : 1 ≤ (x4_2.length : Int)
             ·rw [if_pos c31] at H
              have c31b0 := eq_true c31
              have c31b1 : decide (1 ≤ (x4_2.length : Int)) = true := decide_eq_true c31; clear c31
              obtain ⟨y399, hy399⟩ : ∃ y_ : List Int, y_ = (x4_2.drop 1) := ⟨_, rfl⟩
              replace H : ((selvedgelaw20_OrderResets.f k3 x1_1 y399 0 0 1).bind fun t404 => (if t404 = true then ((selvedgelaw20_OrderResets.f k3 x1_1 x4_2 2 0 1).bind fun t405 => (if t405 = true then ((selvedgelaw20_OrderResets.f k3 (([97] : List Int)) (([127] : List Int)) 0 0 1).bind fun t412 => (if t412 = true then ((selvedgelaw20_OrderResets.f k3 (([32] : List Int)) (([126] : List Int)) 0 0 1).bind fun t419 => (if t419 = true then ((selvedgelaw20_OrderResets.f k3 ([] : List Int) ([] : List Int) 1 0 0).bind fun t420 => (if t420 = true then (if 65537 ≤ 70368744177664 then ((selvedgelaw20_OrderResets.f k3 (List.replicate 65537 0) ([] : List Int) 0 0 0).bind fun t424 => (selvedgelaw20_OrderKnown.j4 k3 (!t424))) else (none)) else (selvedgelaw20_OrderKnown.j4 k3 true))) else (selvedgelaw20_OrderKnown.j4 k3 true))) else (selvedgelaw20_OrderKnown.j4 k3 true))) else (selvedgelaw20_OrderKnown.j4 k3 true))) else (selvedgelaw20_OrderKnown.j4 k3 true))) = some r := by first | (rw [hy399]; with_reducible exact H) | (have H2_ := (Option.bind_some _ _).symm.trans H; rw [hy399]; with_reducible exact H2_) | (have H2_ := (Option.bind_some _ _).symm.trans H; with_reducible exact H2_) | with_reducible exact H | (rw [hy399]; exact H) | exact H
              have Ny399 := Aside0.mk hy399; clear hy399; replace H := Option.bind_eq_some_iff.mp H; obtain ⟨t404, A320, H⟩ := H
              replace H : (if t404 = true then ((selvedgelaw20_OrderResets.f k3 x1_1 x4_2 2 0 1).bind fun t405 => (if t405 = true then ((selvedgelaw20_OrderResets.f k3 (([97] : List Int)) (([127] : List Int)) 0 0 1).bind fun t412 => (if t412 = true then ((selvedgelaw20_OrderResets.f k3 (([32] : List Int)) (([126] : List Int)) 0 0 1).bind fun t419 => (if t419 = true then ((selvedgelaw20_OrderResets.f k3 ([] : List Int) ([] : List Int) 1 0 0).bind fun t420 => (if t420 = true then (if 65537 ≤ 70368744177664 then ((selvedgelaw20_OrderResets.f k3 (List.replicate 65537 0) ([] : List Int) 0 0 0).bind fun t424 => (selvedgelaw20_OrderKnown.j4 k3 (!t424))) else (none)) else (selvedgelaw20_OrderKnown.j4 k3 true))) else (selvedgelaw20_OrderKnown.j4 k3 true))) else (selvedgelaw20_OrderKnown.j4 k3 true))) else (selvedgelaw20_OrderKnown.j4 k3 true))) else (selvedgelaw20_OrderKnown.j4 k3 true)) = some r := H
              have A32 := Aside0.mk A320; clear A320; by_cases c33 : t404 = true
              ·subst c33
               have H1 : ((selvedgelaw20_OrderResets.f k3 x1_1 x4_2 2 0 1).bind fun t405 => (if t405 = true then ((selvedgelaw20_OrderResets.f k3 (([97] : List Int)) (([127] : List Int)) 0 0 1).bind fun t412 => (if t412 = true then ((selvedgelaw20_OrderResets.f k3 (([32] : List Int)) (([126] : List Int)) 0 0 1).bind fun t419 => (if t419 = true then ((selvedgelaw20_OrderResets.f k3 ([] : List Int) ([] : List Int) 1 0 0).bind fun t420 => (if t420 = true then (if 65537 ≤ 70368744177664 then ((selvedgelaw20_OrderResets.f k3 (List.replicate 65537 0) ([] : List Int) 0 0 0).bind fun t424 => (selvedgelaw20_OrderKnown.j4 k3 (!t424))) else (none)) else (selvedgelaw20_OrderKnown.j4 k3 true))) else (selvedgelaw20_OrderKnown.j4 k3 true))) else (selvedgelaw20_OrderKnown.j4 k3 true))) else (selvedgelaw20_OrderKnown.j4 k3 true))) = some r := by rw [if_pos rfl] at H; exact H
               clear H
               have H := H1
               clear H1; replace H := Option.bind_eq_some_iff.mp H; obtain ⟨t405, A340, H⟩ := H
               replace H : (if t405 = true then ((selvedgelaw20_OrderResets.f k3 (([97] : List Int)) (([127] : List Int)) 0 0 1).bind fun t412 => (if t412 = true then ((selvedgelaw20_OrderResets.f k3 (([32] : List Int)) (([126] : List Int)) 0 0 1).bind fun t419 => (if t419 = true then ((selvedgelaw20_OrderResets.f k3 ([] : List Int) ([] : List Int) 1 0 0).bind fun t420 => (if t420 = true then (if 65537 ≤ 70368744177664 then ((selvedgelaw20_OrderResets.f k3 (List.replicate 65537 0) ([] : List Int) 0 0 0).bind fun t424 => (selvedgelaw20_OrderKnown.j4 k3 (!t424))) else (none)) else (selvedgelaw20_OrderKnown.j4 k3 true))) else (selvedgelaw20_OrderKnown.j4 k3 true))) else (selvedgelaw20_OrderKnown.j4 k3 true))) else (selvedgelaw20_OrderKnown.j4 k3 true)) = some r := H
               have A34 := Aside0.mk A340; clear A340; by_cases c35 : t405 = true
               ·subst c35
                have H1 : ((selvedgelaw20_OrderResets.f k3 (([97] : List Int)) (([127] : List Int)) 0 0 1).bind fun t412 => (if t412 = true then ((selvedgelaw20_OrderResets.f k3 (([32] : List Int)) (([126] : List Int)) 0 0 1).bind fun t419 => (if t419 = true then ((selvedgelaw20_OrderResets.f k3 ([] : List Int) ([] : List Int) 1 0 0).bind fun t420 => (if t420 = true then (if 65537 ≤ 70368744177664 then ((selvedgelaw20_OrderResets.f k3 (List.replicate 65537 0) ([] : List Int) 0 0 0).bind fun t424 => (selvedgelaw20_OrderKnown.j4 k3 (!t424))) else (none)) else (selvedgelaw20_OrderKnown.j4 k3 true))) else (selvedgelaw20_OrderKnown.j4 k3 true))) else (selvedgelaw20_OrderKnown.j4 k3 true))) = some r := by rw [if_pos rfl] at H; exact H
                clear H
                have H := H1
                clear H1
                obtain ⟨y406, hy406⟩ : ∃ y_ : List Int, y_ = (([97] : List Int)) := ⟨_, rfl⟩
                replace H : ((selvedgelaw20_OrderResets.f k3 y406 (([127] : List Int)) 0 0 1).bind fun t412 => (if t412 = true then ((selvedgelaw20_OrderResets.f k3 (([32] : List Int)) (([126] : List Int)) 0 0 1).bind fun t419 => (if t419 = true then ((selvedgelaw20_OrderResets.f k3 ([] : List Int) ([] : List Int) 1 0 0).bind fun t420 => (if t420 = true then (if 65537 ≤ 70368744177664 then ((selvedgelaw20_OrderResets.f k3 (List.replicate 65537 0) ([] : List Int) 0 0 0).bind fun t424 => (selvedgelaw20_OrderKnown.j4 k3 (!t424))) else (none)) else (selvedgelaw20_OrderKnown.j4 k3 true))) else (selvedgelaw20_OrderKnown.j4 k3 true))) else (selvedgelaw20_OrderKnown.j4 k3 true))) = some r := by first | (rw [hy406]; with_reducible exact H) | (have H2_ := (Option.bind_some _ _).symm.trans H; rw [hy406]; with_reducible exact H2_) | (have H2_ := (Option.bind_some _ _).symm.trans H; with_reducible exact H2_) | with_reducible exact H | (rw [hy406]; exact H) | exact H
                have Ny406 := Aside0.mk hy406; clear hy406
                obtain ⟨y409, hy409⟩ : ∃ y_ : List Int, y_ = (([127] : List Int)) := ⟨_, rfl⟩
                replace H : ((selvedgelaw20_OrderResets.f k3 y406 y409 0 0 1).bind fun t412 => (if t412 = true then ((selvedgelaw20_OrderResets.f k3 (([32] : List Int)) (([126] : List Int)) 0 0 1).bind fun t419 => (if t419 = true then ((selvedgelaw20_OrderResets.f k3 ([] : List Int) ([] : List Int) 1 0 0).bind fun t420 => (if t420 = true then (if 65537 ≤ 70368744177664 then ((selvedgelaw20_OrderResets.f k3 (List.replicate 65537 0) ([] : List Int) 0 0 0).bind fun t424 => (selvedgelaw20_OrderKnown.j4 k3 (!t424))) else (none)) else (selvedgelaw20_OrderKnown.j4 k3 true))) else (selvedgelaw20_OrderKnown.j4 k3 true))) else (selvedgelaw20_OrderKnown.j4 k3 true))) = some r := by first | (rw [hy409]; with_reducible exact H) | (have H2_ := (Option.bind_some _ _).symm.trans H; rw [hy409]; with_reducible exact H2_) | (have H2_ := (Option.bind_some _ _).symm.trans H; with_reducible exact H2_) | with_reducible exact H | (rw [hy409]; exact H) | exact H
                have Ny409 := Aside0.mk hy409; clear hy409; replace H := Option.bind_eq_some_iff.mp H; obtain ⟨t412, A360, H⟩ := H
                replace H : (if t412 = true then ((selvedgelaw20_OrderResets.f k3 (([32] : List Int)) (([126] : List Int)) 0 0 1).bind fun t419 => (if t419 = true then ((selvedgelaw20_OrderResets.f k3 ([] : List Int) ([] : List Int) 1 0 0).bind fun t420 => (if t420 = true then (if 65537 ≤ 70368744177664 then ((selvedgelaw20_OrderResets.f k3 (List.replicate 65537 0) ([] : List Int) 0 0 0).bind fun t424 => (selvedgelaw20_OrderKnown.j4 k3 (!t424))) else (none)) else (selvedgelaw20_OrderKnown.j4 k3 true))) else (selvedgelaw20_OrderKnown.j4 k3 true))) else (selvedgelaw20_OrderKnown.j4 k3 true)) = some r := H
                have A36 := Aside0.mk A360; clear A360; by_cases c37 : t412 = true
                ·subst c37
                 have H1 : ((selvedgelaw20_OrderResets.f k3 (([32] : List Int)) (([126] : List Int)) 0 0 1).bind fun t419 => (if t419 = true then ((selvedgelaw20_OrderResets.f k3 ([] : List Int) ([] : List Int) 1 0 0).bind fun t420 => (if t420 = true then (if 65537 ≤ 70368744177664 then ((selvedgelaw20_OrderResets.f k3 (List.replicate 65537 0) ([] : List Int) 0 0 0).bind fun t424 => (selvedgelaw20_OrderKnown.j4 k3 (!t424))) else (none)) else (selvedgelaw20_OrderKnown.j4 k3 true))) else (selvedgelaw20_OrderKnown.j4 k3 true))) = some r := by rw [if_pos rfl] at H; exact H
                 clear H
                 have H := H1
                 clear H1
                 obtain ⟨y413, hy413⟩ : ∃ y_ : List Int, y_ = (([32] : List Int)) := ⟨_, rfl⟩
                 replace H : ((selvedgelaw20_OrderResets.f k3 y413 (([126] : List Int)) 0 0 1).bind fun t419 => (if t419 = true then ((selvedgelaw20_OrderResets.f k3 ([] : List Int) ([] : List Int) 1 0 0).bind fun t420 => (if t420 = true then (if 65537 ≤ 70368744177664 then ((selvedgelaw20_OrderResets.f k3 (List.replicate 65537 0) ([] : List Int) 0 0 0).bind fun t424 => (selvedgelaw20_OrderKnown.j4 k3 (!t424))) else (none)) else (selvedgelaw20_OrderKnown.j4 k3 true))) else (selvedgelaw20_OrderKnown.j4 k3 true))) = some r := by first | (rw [hy413]; with_reducible exact H) | (have H2_ := (Option.bind_some _ _).symm.trans H; rw [hy413]; with_reducible exact H2_) | (have H2_ := (Option.bind_some _ _).symm.trans H; with_reducible exact H2_) | with_reducible exact H | (rw [hy413]; exact H) | exact H
                 have Ny413 := Aside0.mk hy413; clear hy413
                 obtain ⟨y416, hy416⟩ : ∃ y_ : List Int, y_ = (([126] : List Int)) := ⟨_, rfl⟩
                 replace H : ((selvedgelaw20_OrderResets.f k3 y413 y416 0 0 1).bind fun t419 => (if t419 = true then ((selvedgelaw20_OrderResets.f k3 ([] : List Int) ([] : List Int) 1 0 0).bind fun t420 => (if t420 = true then (if 65537 ≤ 70368744177664 then ((selvedgelaw20_OrderResets.f k3 (List.replicate 65537 0) ([] : List Int) 0 0 0).bind fun t424 => (selvedgelaw20_OrderKnown.j4 k3 (!t424))) else (none)) else (selvedgelaw20_OrderKnown.j4 k3 true))) else (selvedgelaw20_OrderKnown.j4 k3 true))) = some r := by first | (rw [hy416]; with_reducible exact H) | (have H2_ := (Option.bind_some _ _).symm.trans H; rw [hy416]; with_reducible exact H2_) | (have H2_ := (Option.bind_some _ _).symm.trans H; with_reducible exact H2_) | with_reducible exact H | (rw [hy416]; exact H) | exact H
                 have Ny416 := Aside0.mk hy416; clear hy416; replace H := Option.bind_eq_some_iff.mp H; obtain ⟨t419, A380, H⟩ := H
                 replace H : (if t419 = true then ((selvedgelaw20_OrderResets.f k3 ([] : List Int) ([] : List Int) 1 0 0).bind fun t420 => (if t420 = true then (if 65537 ≤ 70368744177664 then ((selvedgelaw20_OrderResets.f k3 (List.replicate 65537 0) ([] : List Int) 0 0 0).bind fun t424 => (selvedgelaw20_OrderKnown.j4 k3 (!t424))) else (none)) else (selvedgelaw20_OrderKnown.j4 k3 true))) else (selvedgelaw20_OrderKnown.j4 k3 true)) = some r := H
                 have A38 := Aside0.mk A380; clear A380; by_cases c39 : t419 = true
                 ·subst c39
                  have H1 : ((selvedgelaw20_OrderResets.f k3 ([] : List Int) ([] : List Int) 1 0 0).bind fun t420 => (if t420 = true then (if 65537 ≤ 70368744177664 then ((selvedgelaw20_OrderResets.f k3 (List.replicate 65537 0) ([] : List Int) 0 0 0).bind fun t424 => (selvedgelaw20_OrderKnown.j4 k3 (!t424))) else (none)) else (selvedgelaw20_OrderKnown.j4 k3 true))) = some r := by rw [if_pos rfl] at H; exact H
                  clear H
                  have H := H1
                  clear H1; replace H := Option.bind_eq_some_iff.mp H; obtain ⟨t420, A400, H⟩ := H
                  replace H : (if t420 = true then (if 65537 ≤ 70368744177664 then ((selvedgelaw20_OrderResets.f k3 (List.replicate 65537 0) ([] : List Int) 0 0 0).bind fun t424 => (selvedgelaw20_OrderKnown.j4 k3 (!t424))) else (none)) else (selvedgelaw20_OrderKnown.j4 k3 true)) = some r := H
                  have A40 := Aside0.mk A400; clear A400; by_cases c41 : t420 = true
                  ·subst c41
                   have H1 : (if 65537 ≤ 70368744177664 then ((selvedgelaw20_OrderResets.f k3 (List.replicate 65537 0) ([] : List Int) 0 0 0).bind fun t424 => (selvedgelaw20_OrderKnown.j4 k3 (!t424))) else (none)) = some r := by rw [if_pos rfl] at H; exact H
                   clear H
                   have H := H1
                   clear H1; by_cases c42 : 65537 ≤ 70368744177664
                   ·rw [if_pos c42] at H
                    have c42b0 := eq_true c42
                    have c42b1 : decide (65537 ≤ 70368744177664) = true := decide_eq_true c42; clear c42
                    obtain ⟨y421, hy421⟩ : ∃ y_ : List Int, y_ = (List.replicate 65537 0) := ⟨_, rfl⟩
                    replace H : ((selvedgelaw20_OrderResets.f k3 y421 ([] : List Int) 0 0 0).bind fun t424 => (selvedgelaw20_OrderKnown.j4 k3 (!t424))) = some r := by first | (rw [hy421]; with_reducible exact H) | (have H2_ := (Option.bind_some _ _).symm.trans H; rw [hy421]; with_reducible exact H2_) | (have H2_ := (Option.bind_some _ _).symm.trans H; with_reducible exact H2_) | with_reducible exact H | (rw [hy421]; exact H) | exact H
                    have Ny421 := Aside0.mk hy421; clear hy421; replace H := Option.bind_eq_some_iff.mp H; obtain ⟨t424, A430, H⟩ := H
                    replace H : (selvedgelaw20_OrderKnown.j4 k3 (!t424)) = some r := H
                    have A43 := Aside0.mk A430; clear A430
                    have H' := Aside0.mk H
                    clear H
                    have q44 : (1 : Int) ≤ ((x4_2.length : Int) : Int) := of_decide_eq_true (by first | (with_reducible assumption) | assumption)
                    obtain ⟨i044, hi044, _, hsz44, _⟩ := info_parts info5
                    have hroom44 : x4_2.length ≤ co23 := (Kd.R_reads' HO_4.out).2.1
                    have hC44 : Kd.F (Kd.int .u8) _ _ Ao23 x4_2.length x4_2 := (Kd.V_at (base := w.heap.size) (Kd.R_V (Kd.R_apart' (HO_4.out) (Kd.R_typed HO_1.out) (by decide)))).2.2
                    have hcut44 := cut_from (P := Tryd.prog) 23 5 .i64 Tryd.underlying23 hi044 1 hsz44 Ao23 x4_2.length co23 1 (by omega) q44
                    have hr44 := Kd.F_cut (m := (1 : Int).toNat) (c := co23) hC44 (by omega) hroom44
                    obtain ⟨A44, hA44⟩ : ∃ A1, A1 = (if co23 = (1 : Int).toNat then Ao23 else (Ao23 : Option Addr).map (·.add ((1 : Int).toNat * 1))) := ⟨_, rfl⟩
                    obtain ⟨c44, hc44⟩ : ∃ c1, c1 = co23 - (1 : Int).toNat := ⟨_, rfl⟩
                    have hy44 : y399.length = x4_2.length - (1 : Int).toNat := (by rw [Ny399.out, List.length_drop] <;> omega)
                    rw [show (x4_2).drop (1 : Int).toNat = y399 from Ny399.out.symm] at hr44
                    replace hr44 : Kd.F (Kd.int .u8) _ _ A44 y399.length y399 := (by rw [hA44]; exact hr44)
                    rw [← hy44, ← hA44, ← hc44] at hcut44
                    have HO403 := Aside0.mk (show Kd.V (Kd.int .u8) 5 _ w.heap.size _ (.slice A44 y399.length c44) y399 from Kd.V_mk (by rw [hy44, hc44]; exact Nat.sub_le_sub_right hroom44 _) hr44)
                    have HC403 := Aside0.mk (show y399.length ≤ c44 from by rw [hy44, hc44]; exact Nat.sub_le_sub_right hroom44 _)
                    clear hr44 hC44 hroom44 hi044 hsz44 hc44; have KY44 := Aside0.mk hy44; have KA44 := Aside0.mk hA44; clear hy44 hA44; replace q44 := eq_true q44
                    go_wp2_with (first | ((with_reducible refine gate_callee (f := 3) rfl ?_); refine goesL_ (some 67) rfl rfl Tryd.func3 (by kernel_rfl) rfl #[.slice Ao14 x1_1.length co14, .slice A44 y399.length c44, .int .u8 0, .int .i64 0, .int .i64 1] rfl (by (try simp only [List.map_toArray, List.map_cons, List.map_nil]); first | done | rfl | (simp only [List.length_drop, List.length_take]; rfl)) ?_; (with_reducible refine (selvedgelaw20_OrderResets.calls k3 _ _ x1_1 _ _ y399 0 0 1 true _ ?side1 ?side2 ?side3 ?side4 A32.out).mono ?_); (case side1 => repeat (first | exact (Kd.R_reads' HO_1.out).2.2 | (with_reducible refine Kd.C_alloc ?_ _) | (with_reducible refine Kd.C_drewN ?_ _) | (with_reducible refine Kd.C_drew ?_))); (case side2 => exact (Kd.R_reads' HO_1.out).2.1); (case side3 => repeat (first | exact (Kd.V_reads' HO403.out).2.2 | (with_reducible refine Kd.C_alloc ?_ _) | (with_reducible refine Kd.C_drewN ?_ _) | (with_reducible refine Kd.C_drew ?_))); (case side4 => exact (Kd.V_reads' HO403.out).2.1); rintro e w45 ⟨rfl, hb⟩; refine ⟨_, rfl, ?_⟩; have n0_ := Aside0.mk (Kd.R_below (RR HO_1) hb); have n1_ := Aside0.mk (Kd.R_below (RR HO_4) hb); have n2_ := Aside0.mk (Kd.V_below (by (with_reducible repeat (first | apply Kd.V_alloc | apply Kd.V_drewN | apply Kd.V_drew)); exact HO403.out) hb); have n3_ := Aside0.mk (below_step (BB HB) hb); clear HO_1; clear HO_4; clear HO403; clear HB; have HO_1 := n0_; have HO_4 := n1_; have HO403 := n2_; have HB := n3_; clear n0_ n1_ n2_ n3_; (try clear hb); (try clear hb2); (try clear hk); (try clear hi)) | (go_at_call 3; (with_reducible refine (selvedgelaw20_OrderResets.calls k3 _ _ x1_1 _ _ x4_2 2 0 1 true _ ?side1 ?side2 ?side3 ?side4 A34.out).mono ?_); (case side1 => repeat (first | exact (Kd.R_reads' HO_1.out).2.2 | (with_reducible refine Kd.C_alloc ?_ _) | (with_reducible refine Kd.C_drewN ?_ _) | (with_reducible refine Kd.C_drew ?_))); (case side2 => exact (Kd.R_reads' HO_1.out).2.1); (case side3 => repeat (first | exact (Kd.R_reads' HO_4.out).2.2 | (with_reducible refine Kd.C_alloc ?_ _) | (with_reducible refine Kd.C_drewN ?_ _) | (with_reducible refine Kd.C_drew ?_))); (case side4 => exact (Kd.R_reads' HO_4.out).2.1); rintro e w46 ⟨rfl, hb⟩; have n0_ := Aside0.mk (Kd.R_below (RR HO_1) hb); have n1_ := Aside0.mk (Kd.R_below (RR HO_4) hb); have n2_ := Aside0.mk (Kd.V_below (by (with_reducible repeat (first | apply Kd.V_alloc | apply Kd.V_drewN | apply Kd.V_drew)); exact HO403.out) hb); have n3_ := Aside0.mk (below_step (BB HB) hb); clear HO_1; clear HO_4; clear HO403; clear HB; have HO_1 := n0_; have HO_4 := n1_; have HO403 := n2_; have HB := n3_; clear n0_ n1_ n2_ n3_; (try clear hb); (try clear hb2); (try clear hk); (try clear hi)) | ((with_reducible refine gate_dst (N := 76) rfl ?_); (try (refine gate_guard (by rfl) ?_; dsimp only)); refine Kd.R_lit (Kd.int .i32) _ 21 ?hg (N := 76) ?hd (xs := ([97] : List Int)) (inner := [.int .i32 97]) (ok := fun _ => True) (okp := fun _ => True) ?hr ?hp (fun _ hk => hk) trivial (Below.refl _ _) (Nat.le_refl _) (by simp) ?_; (case hd => rfl); (case hg => rfl); (case hr => first | (go_simp; done) | (go_simp; rfl)); (case hp => exact (Reps.one (show Kd.M (Kd.int .i32) _ _ _ 97 [.int .i32 97] from rfl) (Reps.none _ _))); intro v407 w47 ho48 hb hg_ hnew_; clear hg_ hnew_; (first | rw [← Ny406.out] at ho48 | (simp only [Int.reduceToNat] at ho48; rw [← Ny406.out] at ho48)); have n0_ := Aside0.mk (Kd.R_elder' (RR HO_1) (Kd.R_base ho48) hb); have n1_ := Aside0.mk (Kd.R_below (RR HO_4) hb); have n2_ := Aside0.mk (Kd.V_elder' (by (with_reducible repeat (first | apply Kd.V_alloc | apply Kd.V_drewN | apply Kd.V_drew)); exact HO403.out) (Kd.R_base ho48) hb); have n3_ := Aside0.mk (Kd.R_lower (Kd.R_new' ho48 (Kd.R_lt (RR HO_1))) (below_size (BB HB))); have n4_ := Aside0.mk (below_step (BB HB) hb); clear HO_1; clear HO_4; clear HO403; clear HB; have HO_1 := n0_; have HO_4 := n1_; have HO403 := n2_; have HO408 := n3_; have HB := n4_; clear n0_ n1_ n2_ n3_ n4_; clear hb ho48) | ((with_reducible refine gate_dst (N := 77) rfl ?_); (try (refine gate_guard (by rfl) ?_; dsimp only)); refine Kd.R_lit (Kd.int .u8) _ 5 ?hg (N := 77) ?hd (xs := ([127] : List Int)) (inner := [.int .u8 127]) (ok := fun _ => True) (okp := fun _ => True) ?hr ?hp (fun _ hk => hk) trivial (Below.refl _ _) (Nat.le_refl _) (by simp) ?_; (case hd => rfl); (case hg => rfl); (case hr => first | (go_simp; done) | (go_simp; rfl)); (case hp => exact (Reps.one (show Kd.M (Kd.int .u8) _ _ _ 127 [.int .u8 127] from rfl) (Reps.none _ _))); intro v410 w49 ho50 hb hg_ hnew_; clear hg_ hnew_; (first | rw [← Ny409.out] at ho50 | (simp only [Int.reduceToNat] at ho50; rw [← Ny409.out] at ho50)); have n0_ := Aside0.mk (Kd.R_below (RR HO_1) hb); have n1_ := Aside0.mk (Kd.R_elder' (RR HO_4) (Kd.R_base ho50) hb); have n2_ := Aside0.mk (Kd.V_elder' (by (with_reducible repeat (first | apply Kd.V_alloc | apply Kd.V_drewN | apply Kd.V_drew)); exact HO403.out) (Kd.R_base ho50) hb); have n3_ := Aside0.mk (Kd.R_below (RR HO408) hb); have n4_ := Aside0.mk (Kd.R_lower (Kd.R_new' ho50 (Kd.R_lt (RR HO_4))) (below_size (BB HB))); have n5_ := Aside0.mk (below_step (BB HB) hb); clear HO_1; clear HO_4; clear HO403; clear HO408; clear HB; have HO_1 := n0_; have HO_4 := n1_; have HO403 := n2_; have HO408 := n3_; have HO411 := n4_; have HB := n5_; clear n0_ n1_ n2_ n3_ n4_ n5_; clear hb ho50; obtain ⟨Ao51, co51, eo51⟩ := Kd.R_slice HO408.out; subst eo51; obtain ⟨Ao52, co52, eo52⟩ := Kd.R_slice HO411.out; subst eo52) | (go_at_call 3; (with_reducible refine (selvedgelaw20_OrderResets.calls k3 _ _ y406 _ _ y409 0 0 1 true _ ?side1 ?side2 ?side3 ?side4 A36.out).mono ?_); (case side1 => repeat (first | exact (Kd.R_reads' HO408.out).2.2 | (with_reducible refine Kd.C_alloc ?_ _) | (with_reducible refine Kd.C_drewN ?_ _) | (with_reducible refine Kd.C_drew ?_))); (case side2 => exact (Kd.R_reads' HO408.out).2.1); (case side3 => repeat (first | exact (Kd.R_reads' HO411.out).2.2 | (with_reducible refine Kd.C_alloc ?_ _) | (with_reducible refine Kd.C_drewN ?_ _) | (with_reducible refine Kd.C_drew ?_))); (case side4 => exact (Kd.R_reads' HO411.out).2.1); rintro e w53 ⟨rfl, hb⟩; have n0_ := Aside0.mk (Kd.R_below (RR HO_1) hb); have n1_ := Aside0.mk (Kd.R_below (RR HO_4) hb); have n2_ := Aside0.mk (Kd.V_below (by (with_reducible repeat (first | apply Kd.V_alloc | apply Kd.V_drewN | apply Kd.V_drew)); exact HO403.out) hb); have n3_ := Aside0.mk (Kd.R_below (RR HO408) hb); have n4_ := Aside0.mk (Kd.R_below (RR HO411) hb); have n5_ := Aside0.mk (below_step (BB HB) hb); clear HO_1; clear HO_4; clear HO403; clear HO408; clear HO411; clear HB; have HO_1 := n0_; have HO_4 := n1_; have HO403 := n2_; have HO408 := n3_; have HO411 := n4_; have HB := n5_; clear n0_ n1_ n2_ n3_ n4_ n5_; (try clear hb); (try clear hb2); (try clear hk); (try clear hi)) | ((with_reducible refine gate_dst (N := 82) rfl ?_); (try (refine gate_guard (by rfl) ?_; dsimp only)); refine Kd.R_lit (Kd.int .i32) _ 21 ?hg (N := 82) ?hd (xs := ([32] : List Int)) (inner := [.int .i32 32]) (ok := fun _ => True) (okp := fun _ => True) ?hr ?hp (fun _ hk => hk) trivial (Below.refl _ _) (Nat.le_refl _) (by simp) ?_; (case hd => rfl); (case hg => rfl); (case hr => first | (go_simp; done) | (go_simp; rfl)); (case hp => exact (Reps.one (show Kd.M (Kd.int .i32) _ _ _ 32 [.int .i32 32] from rfl) (Reps.none _ _))); intro v414 w54 ho55 hb hg_ hnew_; clear hg_ hnew_; (first | rw [← Ny413.out] at ho55 | (simp only [Int.reduceToNat] at ho55; rw [← Ny413.out] at ho55)); have n0_ := Aside0.mk (Kd.R_elder' (RR HO_1) (Kd.R_base ho55) hb); have n1_ := Aside0.mk (Kd.R_below (RR HO_4) hb); have n2_ := Aside0.mk (Kd.V_elder' (by (with_reducible repeat (first | apply Kd.V_alloc | apply Kd.V_drewN | apply Kd.V_drew)); exact HO403.out) (Kd.R_base ho55) hb); have n3_ := Aside0.mk (Kd.R_elder' (RR HO408) (Kd.R_base ho55) hb); have n4_ := Aside0.mk (Kd.R_below (RR HO411) hb); have n5_ := Aside0.mk (Kd.R_lower (Kd.R_new' (Kd.R_new' ho55 (Kd.R_lt (RR HO_1))) (Kd.R_lt (RR HO408))) (below_size (BB HB))); have n6_ := Aside0.mk (below_step (BB HB) hb); clear HO_1; clear HO_4; clear HO403; clear HO408; clear HO411; clear HB; have HO_1 := n0_; have HO_4 := n1_; have HO403 := n2_; have HO408 := n3_; have HO411 := n4_; have HO415 := n5_; have HB := n6_; clear n0_ n1_ n2_ n3_ n4_ n5_ n6_; clear hb ho55) | ((with_reducible refine gate_dst (N := 83) rfl ?_); (try (refine gate_guard (by rfl) ?_; dsimp only)); refine Kd.R_lit (Kd.int .u8) _ 5 ?hg (N := 83) ?hd (xs := ([126] : List Int)) (inner := [.int .u8 126]) (ok := fun _ => True) (okp := fun _ => True) ?hr ?hp (fun _ hk => hk) trivial (Below.refl _ _) (Nat.le_refl _) (by simp) ?_; (case hd => rfl); (case hg => rfl); (case hr => first | (go_simp; done) | (go_simp; rfl)); (case hp => exact (Reps.one (show Kd.M (Kd.int .u8) _ _ _ 126 [.int .u8 126] from rfl) (Reps.none _ _))); intro v417 w56 ho57 hb hg_ hnew_; clear hg_ hnew_; (first | rw [← Ny416.out] at ho57 | (simp only [Int.reduceToNat] at ho57; rw [← Ny416.out] at ho57)); have n0_ := Aside0.mk (Kd.R_below (RR HO_1) hb); have n1_ := Aside0.mk (Kd.R_elder' (RR HO_4) (Kd.R_base ho57) hb); have n2_ := Aside0.mk (Kd.V_elder' (by (with_reducible repeat (first | apply Kd.V_alloc | apply Kd.V_drewN | apply Kd.V_drew)); exact HO403.out) (Kd.R_base ho57) hb); have n3_ := Aside0.mk (Kd.R_below (RR HO408) hb); have n4_ := Aside0.mk (Kd.R_elder' (RR HO411) (Kd.R_base ho57) hb); have n5_ := Aside0.mk (Kd.R_below (RR HO415) hb); have n6_ := Aside0.mk (Kd.R_lower (Kd.R_new' (Kd.R_new' ho57 (Kd.R_lt (RR HO_4))) (Kd.R_lt (RR HO411))) (below_size (BB HB))); have n7_ := Aside0.mk (below_step (BB HB) hb); clear HO_1; clear HO_4; clear HO403; clear HO408; clear HO411; clear HO415; clear HB; have HO_1 := n0_; have HO_4 := n1_; have HO403 := n2_; have HO408 := n3_; have HO411 := n4_; have HO415 := n5_; have HO418 := n6_; have HB := n7_; clear n0_ n1_ n2_ n3_ n4_ n5_ n6_ n7_; clear hb ho57; obtain ⟨Ao58, co58, eo58⟩ := Kd.R_slice HO415.out; subst eo58; obtain ⟨Ao59, co59, eo59⟩ := Kd.R_slice HO418.out; subst eo59) | (go_at_call 3; (with_reducible refine (selvedgelaw20_OrderResets.calls k3 _ _ y413 _ _ y416 0 0 1 true _ ?side1 ?side2 ?side3 ?side4 A38.out).mono ?_); (case side1 => repeat (first | exact (Kd.R_reads' HO415.out).2.2 | (with_reducible refine Kd.C_alloc ?_ _) | (with_reducible refine Kd.C_drewN ?_ _) | (with_reducible refine Kd.C_drew ?_))); (case side2 => exact (Kd.R_reads' HO415.out).2.1); (case side3 => repeat (first | exact (Kd.R_reads' HO418.out).2.2 | (with_reducible refine Kd.C_alloc ?_ _) | (with_reducible refine Kd.C_drewN ?_ _) | (with_reducible refine Kd.C_drew ?_))); (case side4 => exact (Kd.R_reads' HO418.out).2.1); rintro e w60 ⟨rfl, hb⟩; have n0_ := Aside0.mk (Kd.R_below (RR HO_1) hb); have n1_ := Aside0.mk (Kd.R_below (RR HO_4) hb); have n2_ := Aside0.mk (Kd.V_below (by (with_reducible repeat (first | apply Kd.V_alloc | apply Kd.V_drewN | apply Kd.V_drew)); exact HO403.out) hb); have n3_ := Aside0.mk (Kd.R_below (RR HO408) hb); have n4_ := Aside0.mk (Kd.R_below (RR HO411) hb); have n5_ := Aside0.mk (Kd.R_below (RR HO415) hb); have n6_ := Aside0.mk (Kd.R_below (RR HO418) hb); have n7_ := Aside0.mk (below_step (BB HB) hb); clear HO_1; clear HO_4; clear HO403; clear HO408; clear HO411; clear HO415; clear HO418; clear HB; have HO_1 := n0_; have HO_4 := n1_; have HO403 := n2_; have HO408 := n3_; have HO411 := n4_; have HO415 := n5_; have HO418 := n6_; have HB := n7_; clear n0_ n1_ n2_ n3_ n4_ n5_ n6_ n7_; (try clear hb); (try clear hb2); (try clear hk); (try clear hi)) | (go_at_call 3; (with_reducible show Calls _ _ #[.slice none 0 0, .slice none 0 0, .int .u8 1, .int .i64 0, .int .i64 0] _ _); (refine (selvedgelaw20_OrderResets.calls k3 _ _ ([] : List Int) _ _ ([] : List Int) 1 0 0 true _ ?side1 ?side2 ?side3 ?side4 A40.out).mono ?_); (case side1 => exact Kd.C_nil _ _); (case side2 => exact Nat.le_refl _); (case side3 => exact Kd.C_nil _ _); (case side4 => exact Nat.le_refl _); rintro e w61 ⟨rfl, hb⟩; have n0_ := Aside0.mk (Kd.R_below (RR HO_1) hb); have n1_ := Aside0.mk (Kd.R_below (RR HO_4) hb); have n2_ := Aside0.mk (Kd.V_below (by (with_reducible repeat (first | apply Kd.V_alloc | apply Kd.V_drewN | apply Kd.V_drew)); exact HO403.out) hb); have n3_ := Aside0.mk (Kd.R_below (RR HO408) hb); have n4_ := Aside0.mk (Kd.R_below (RR HO411) hb); have n5_ := Aside0.mk (Kd.R_below (RR HO415) hb); have n6_ := Aside0.mk (Kd.R_below (RR HO418) hb); have n7_ := Aside0.mk (below_step (BB HB) hb); clear HO_1; clear HO_4; clear HO403; clear HO408; clear HO411; clear HO415; clear HO418; clear HB; have HO_1 := n0_; have HO_4 := n1_; have HO403 := n2_; have HO408 := n3_; have HO411 := n4_; have HO415 := n5_; have HO418 := n6_; have HB := n7_; clear n0_ n1_ n2_ n3_ n4_ n5_ n6_ n7_; (try clear hb); (try clear hb2); (try clear hk); (try clear hi)) | ((with_reducible refine gate_dst (N := 92) rfl ?_); (try (refine gate_guard (by rfl) ?_; dsimp only)); refine Kd.R_make (Kd.int .i32) _ 21 rfl (N := 92) rfl 22 _ _ rfl 65537 rfl rfl Tryd.underlying22 (.int .i32 0) 4 info21 rfl (by decide) (by omega) 0 (ok := fun _ => True) (okp := fun _ => True) rfl (fun _ hk => hk) trivial (by omega) (by omega) (Below.refl _ _) (Nat.le_refl _) ?_; intro v422 w62 ho63 hb hg_ hnew_; clear hg_ hnew_; (first | rw [← Ny421.out] at ho63 | (simp only [Int.reduceToNat] at ho63; rw [← Ny421.out] at ho63)); have n0_ := Aside0.mk (Kd.R_elder' (RR HO_1) (Kd.R_base ho63) hb); have n1_ := Aside0.mk (Kd.R_below (RR HO_4) hb); have n2_ := Aside0.mk (Kd.V_elder' (by (with_reducible repeat (first | apply Kd.V_alloc | apply Kd.V_drewN | apply Kd.V_drew)); exact HO403.out) (Kd.R_base ho63) hb); have n3_ := Aside0.mk (Kd.R_elder' (RR HO408) (Kd.R_base ho63) hb); have n4_ := Aside0.mk (Kd.R_below (RR HO411) hb); have n5_ := Aside0.mk (Kd.R_elder' (RR HO415) (Kd.R_base ho63) hb); have n6_ := Aside0.mk (Kd.R_below (RR HO418) hb); have n7_ := Aside0.mk (Kd.R_lower (Kd.R_new' (Kd.R_new' (Kd.R_new' ho63 (Kd.R_lt (RR HO_1))) (Kd.R_lt (RR HO408))) (Kd.R_lt (RR HO415))) (below_size (BB HB))); have n8_ := Aside0.mk (below_step (BB HB) hb); clear HO_1; clear HO_4; clear HO403; clear HO408; clear HO411; clear HO415; clear HO418; clear HB; have HO_1 := n0_; have HO_4 := n1_; have HO403 := n2_; have HO408 := n3_; have HO411 := n4_; have HO415 := n5_; have HO418 := n6_; have HO423 := n7_; have HB := n8_; clear n0_ n1_ n2_ n3_ n4_ n5_ n6_ n7_ n8_; clear hb ho63; obtain ⟨Ao64, co64, eo64⟩ := Kd.R_slice HO423.out; subst eo64) | (go_at_call 3; (refine (selvedgelaw20_OrderResets.calls k3 _ _ y421 _ _ ([] : List Int) 0 0 0 t424 _ ?side1 ?side2 ?side3 ?side4 A43.out).mono ?_); (case side1 => repeat (first | exact (Kd.R_reads' HO423.out).2.2 | (with_reducible refine Kd.C_alloc ?_ _) | (with_reducible refine Kd.C_drewN ?_ _) | (with_reducible refine Kd.C_drew ?_))); (case side2 => exact (Kd.R_reads' HO423.out).2.1); (case side3 => exact Kd.C_nil _ _); (case side4 => exact Nat.le_refl _); rintro e w65 ⟨rfl, hb⟩; have n0_ := Aside0.mk (Kd.R_below (RR HO_1) hb); have n1_ := Aside0.mk (Kd.R_below (RR HO_4) hb); have n2_ := Aside0.mk (Kd.V_below (by (with_reducible repeat (first | apply Kd.V_alloc | apply Kd.V_drewN | apply Kd.V_drew)); exact HO403.out) hb); have n3_ := Aside0.mk (Kd.R_below (RR HO408) hb); have n4_ := Aside0.mk (Kd.R_below (RR HO411) hb); have n5_ := Aside0.mk (Kd.R_below (RR HO415) hb); have n6_ := Aside0.mk (Kd.R_below (RR HO418) hb); have n7_ := Aside0.mk (Kd.R_below (RR HO423) hb); have n8_ := Aside0.mk (below_step (BB HB) hb); clear HO_1; clear HO_4; clear HO403; clear HO408; clear HO411; clear HO415; clear HO418; clear HO423; clear HB; have HO_1 := n0_; have HO_4 := n1_; have HO403 := n2_; have HO408 := n3_; have HO411 := n4_; have HO415 := n5_; have HO418 := n6_; have HO423 := n7_; have HB := n8_; clear n0_ n1_ n2_ n3_ n4_ n5_ n6_ n7_ n8_; (try clear hb); (try clear hb2); (try clear hk); (try clear hi)))
                    go_meet
                    case rel => exact ⟨_, (!t424), (by first | rfl | (simp; done) | (simp [*]; done)), H', ⟨by have := HK1.out; have := HK2.out; have := HK3.out; first | omega | exact Nat.le_refl _⟩, ⟨BB HB⟩⟩
                   ·rw [if_neg c42] at H
                    exact absurd H (by simp)
                  ·replace c41 := Bool.eq_false_iff.mpr c41
                   subst c41
                   have H1 : (selvedgelaw20_OrderKnown.j4 k3 true) = some r := by rw [if_neg (show ¬ (false = true) by decide)] at H; exact H
                   clear H
                   have H := H1
                   clear H1
                   have H' := Aside0.mk H
                   clear H
                   have q66 : (1 : Int) ≤ ((x4_2.length : Int) : Int) := of_decide_eq_true (by first | (with_reducible assumption) | assumption)
                   obtain ⟨i066, hi066, _, hsz66, _⟩ := info_parts info5
                   have hroom66 : x4_2.length ≤ co23 := (Kd.R_reads' HO_4.out).2.1
                   have hC66 : Kd.F (Kd.int .u8) _ _ Ao23 x4_2.length x4_2 := (Kd.V_at (base := w.heap.size) (Kd.R_V (Kd.R_apart' (HO_4.out) (Kd.R_typed HO_1.out) (by decide)))).2.2
                   have hcut66 := cut_from (P := Tryd.prog) 23 5 .i64 Tryd.underlying23 hi066 1 hsz66 Ao23 x4_2.length co23 1 (by omega) q66
                   have hr66 := Kd.F_cut (m := (1 : Int).toNat) (c := co23) hC66 (by omega) hroom66
                   obtain ⟨A66, hA66⟩ : ∃ A1, A1 = (if co23 = (1 : Int).toNat then Ao23 else (Ao23 : Option Addr).map (·.add ((1 : Int).toNat * 1))) := ⟨_, rfl⟩
                   obtain ⟨c66, hc66⟩ : ∃ c1, c1 = co23 - (1 : Int).toNat := ⟨_, rfl⟩
                   have hy66 : y399.length = x4_2.length - (1 : Int).toNat := (by rw [Ny399.out, List.length_drop] <;> omega)
                   rw [show (x4_2).drop (1 : Int).toNat = y399 from Ny399.out.symm] at hr66
                   replace hr66 : Kd.F (Kd.int .u8) _ _ A66 y399.length y399 := (by rw [hA66]; exact hr66)
                   rw [← hy66, ← hA66, ← hc66] at hcut66
                   have HO403 := Aside0.mk (show Kd.V (Kd.int .u8) 5 _ w.heap.size _ (.slice A66 y399.length c66) y399 from Kd.V_mk (by rw [hy66, hc66]; exact Nat.sub_le_sub_right hroom66 _) hr66)
                   have HC403 := Aside0.mk (show y399.length ≤ c66 from by rw [hy66, hc66]; exact Nat.sub_le_sub_right hroom66 _)
                   clear hr66 hC66 hroom66 hi066 hsz66 hc66; have KY66 := Aside0.mk hy66; have KA66 := Aside0.mk hA66; clear hy66 hA66; replace q66 := eq_true q66
                   go_wp2_with (first | ((with_reducible refine gate_callee (f := 3) rfl ?_); refine goesL_ (some 67) rfl rfl Tryd.func3 (by kernel_rfl) rfl #[.slice Ao14 x1_1.length co14, .slice A66 y399.length c66, .int .u8 0, .int .i64 0, .int .i64 1] rfl (by (try simp only [List.map_toArray, List.map_cons, List.map_nil]); first | done | rfl | (simp only [List.length_drop, List.length_take]; rfl)) ?_; (with_reducible refine (selvedgelaw20_OrderResets.calls k3 _ _ x1_1 _ _ y399 0 0 1 true _ ?side1 ?side2 ?side3 ?side4 A32.out).mono ?_); (case side1 => repeat (first | exact (Kd.R_reads' HO_1.out).2.2 | (with_reducible refine Kd.C_alloc ?_ _) | (with_reducible refine Kd.C_drewN ?_ _) | (with_reducible refine Kd.C_drew ?_))); (case side2 => exact (Kd.R_reads' HO_1.out).2.1); (case side3 => repeat (first | exact (Kd.V_reads' HO403.out).2.2 | (with_reducible refine Kd.C_alloc ?_ _) | (with_reducible refine Kd.C_drewN ?_ _) | (with_reducible refine Kd.C_drew ?_))); (case side4 => exact (Kd.V_reads' HO403.out).2.1); rintro e w67 ⟨rfl, hb⟩; refine ⟨_, rfl, ?_⟩; have n0_ := Aside0.mk (Kd.R_below (RR HO_1) hb); have n1_ := Aside0.mk (Kd.R_below (RR HO_4) hb); have n2_ := Aside0.mk (Kd.V_below (by (with_reducible repeat (first | apply Kd.V_alloc | apply Kd.V_drewN | apply Kd.V_drew)); exact HO403.out) hb); have n3_ := Aside0.mk (below_step (BB HB) hb); clear HO_1; clear HO_4; clear HO403; clear HB; have HO_1 := n0_; have HO_4 := n1_; have HO403 := n2_; have HB := n3_; clear n0_ n1_ n2_ n3_; (try clear hb); (try clear hb2); (try clear hk); (try clear hi)) | (go_at_call 3; (with_reducible refine (selvedgelaw20_OrderResets.calls k3 _ _ x1_1 _ _ x4_2 2 0 1 true _ ?side1 ?side2 ?side3 ?side4 A34.out).mono ?_); (case side1 => repeat (first | exact (Kd.R_reads' HO_1.out).2.2 | (with_reducible refine Kd.C_alloc ?_ _) | (with_reducible refine Kd.C_drewN ?_ _) | (with_reducible refine Kd.C_drew ?_))); (case side2 => exact (Kd.R_reads' HO_1.out).2.1); (case side3 => repeat (first | exact (Kd.R_reads' HO_4.out).2.2 | (with_reducible refine Kd.C_alloc ?_ _) | (with_reducible refine Kd.C_drewN ?_ _) | (with_reducible refine Kd.C_drew ?_))); (case side4 => exact (Kd.R_reads' HO_4.out).2.1); rintro e w68 ⟨rfl, hb⟩; have n0_ := Aside0.mk (Kd.R_below (RR HO_1) hb); have n1_ := Aside0.mk (Kd.R_below (RR HO_4) hb); have n2_ := Aside0.mk (Kd.V_below (by (with_reducible repeat (first | apply Kd.V_alloc | apply Kd.V_drewN | apply Kd.V_drew)); exact HO403.out) hb); have n3_ := Aside0.mk (below_step (BB HB) hb); clear HO_1; clear HO_4; clear HO403; clear HB; have HO_1 := n0_; have HO_4 := n1_; have HO403 := n2_; have HB := n3_; clear n0_ n1_ n2_ n3_; (try clear hb); (try clear hb2); (try clear hk); (try clear hi)) | ((with_reducible refine gate_dst (N := 76) rfl ?_); (try (refine gate_guard (by rfl) ?_; dsimp only)); refine Kd.R_lit (Kd.int .i32) _ 21 ?hg (N := 76) ?hd (xs := ([97] : List Int)) (inner := [.int .i32 97]) (ok := fun _ => True) (okp := fun _ => True) ?hr ?hp (fun _ hk => hk) trivial (Below.refl _ _) (Nat.le_refl _) (by simp) ?_; (case hd => rfl); (case hg => rfl); (case hr => first | (go_simp; done) | (go_simp; rfl)); (case hp => exact (Reps.one (show Kd.M (Kd.int .i32) _ _ _ 97 [.int .i32 97] from rfl) (Reps.none _ _))); intro v407 w69 ho70 hb hg_ hnew_; clear hg_ hnew_; (first | rw [← Ny406.out] at ho70 | (simp only [Int.reduceToNat] at ho70; rw [← Ny406.out] at ho70)); have n0_ := Aside0.mk (Kd.R_elder' (RR HO_1) (Kd.R_base ho70) hb); have n1_ := Aside0.mk (Kd.R_below (RR HO_4) hb); have n2_ := Aside0.mk (Kd.V_elder' (by (with_reducible repeat (first | apply Kd.V_alloc | apply Kd.V_drewN | apply Kd.V_drew)); exact HO403.out) (Kd.R_base ho70) hb); have n3_ := Aside0.mk (Kd.R_lower (Kd.R_new' ho70 (Kd.R_lt (RR HO_1))) (below_size (BB HB))); have n4_ := Aside0.mk (below_step (BB HB) hb); clear HO_1; clear HO_4; clear HO403; clear HB; have HO_1 := n0_; have HO_4 := n1_; have HO403 := n2_; have HO408 := n3_; have HB := n4_; clear n0_ n1_ n2_ n3_ n4_; clear hb ho70) | ((with_reducible refine gate_dst (N := 77) rfl ?_); (try (refine gate_guard (by rfl) ?_; dsimp only)); refine Kd.R_lit (Kd.int .u8) _ 5 ?hg (N := 77) ?hd (xs := ([127] : List Int)) (inner := [.int .u8 127]) (ok := fun _ => True) (okp := fun _ => True) ?hr ?hp (fun _ hk => hk) trivial (Below.refl _ _) (Nat.le_refl _) (by simp) ?_; (case hd => rfl); (case hg => rfl); (case hr => first | (go_simp; done) | (go_simp; rfl)); (case hp => exact (Reps.one (show Kd.M (Kd.int .u8) _ _ _ 127 [.int .u8 127] from rfl) (Reps.none _ _))); intro v410 w71 ho72 hb hg_ hnew_; clear hg_ hnew_; (first | rw [← Ny409.out] at ho72 | (simp only [Int.reduceToNat] at ho72; rw [← Ny409.out] at ho72)); have n0_ := Aside0.mk (Kd.R_below (RR HO_1) hb); have n1_ := Aside0.mk (Kd.R_elder' (RR HO_4) (Kd.R_base ho72) hb); have n2_ := Aside0.mk (Kd.V_elder' (by (with_reducible repeat (first | apply Kd.V_alloc | apply Kd.V_drewN | apply Kd.V_drew)); exact HO403.out) (Kd.R_base ho72) hb); have n3_ := Aside0.mk (Kd.R_below (RR HO408) hb); have n4_ := Aside0.mk (Kd.R_lower (Kd.R_new' ho72 (Kd.R_lt (RR HO_4))) (below_size (BB HB))); have n5_ := Aside0.mk (below_step (BB HB) hb); clear HO_1; clear HO_4; clear HO403; clear HO408; clear HB; have HO_1 := n0_; have HO_4 := n1_; have HO403 := n2_; have HO408 := n3_; have HO411 := n4_; have HB := n5_; clear n0_ n1_ n2_ n3_ n4_ n5_; clear hb ho72; obtain ⟨Ao73, co73, eo73⟩ := Kd.R_slice HO408.out; subst eo73; obtain ⟨Ao74, co74, eo74⟩ := Kd.R_slice HO411.out; subst eo74) | (go_at_call 3; (with_reducible refine (selvedgelaw20_OrderResets.calls k3 _ _ y406 _ _ y409 0 0 1 true _ ?side1 ?side2 ?side3 ?side4 A36.out).mono ?_); (case side1 => repeat (first | exact (Kd.R_reads' HO408.out).2.2 | (with_reducible refine Kd.C_alloc ?_ _) | (with_reducible refine Kd.C_drewN ?_ _) | (with_reducible refine Kd.C_drew ?_))); (case side2 => exact (Kd.R_reads' HO408.out).2.1); (case side3 => repeat (first | exact (Kd.R_reads' HO411.out).2.2 | (with_reducible refine Kd.C_alloc ?_ _) | (with_reducible refine Kd.C_drewN ?_ _) | (with_reducible refine Kd.C_drew ?_))); (case side4 => exact (Kd.R_reads' HO411.out).2.1); rintro e w75 ⟨rfl, hb⟩; have n0_ := Aside0.mk (Kd.R_below (RR HO_1) hb); have n1_ := Aside0.mk (Kd.R_below (RR HO_4) hb); have n2_ := Aside0.mk (Kd.V_below (by (with_reducible repeat (first | apply Kd.V_alloc | apply Kd.V_drewN | apply Kd.V_drew)); exact HO403.out) hb); have n3_ := Aside0.mk (Kd.R_below (RR HO408) hb); have n4_ := Aside0.mk (Kd.R_below (RR HO411) hb); have n5_ := Aside0.mk (below_step (BB HB) hb); clear HO_1; clear HO_4; clear HO403; clear HO408; clear HO411; clear HB; have HO_1 := n0_; have HO_4 := n1_; have HO403 := n2_; have HO408 := n3_; have HO411 := n4_; have HB := n5_; clear n0_ n1_ n2_ n3_ n4_ n5_; (try clear hb); (try clear hb2); (try clear hk); (try clear hi)) | ((with_reducible refine gate_dst (N := 82) rfl ?_); (try (refine gate_guard (by rfl) ?_; dsimp only)); refine Kd.R_lit (Kd.int .i32) _ 21 ?hg (N := 82) ?hd (xs := ([32] : List Int)) (inner := [.int .i32 32]) (ok := fun _ => True) (okp := fun _ => True) ?hr ?hp (fun _ hk => hk) trivial (Below.refl _ _) (Nat.le_refl _) (by simp) ?_; (case hd => rfl); (case hg => rfl); (case hr => first | (go_simp; done) | (go_simp; rfl)); (case hp => exact (Reps.one (show Kd.M (Kd.int .i32) _ _ _ 32 [.int .i32 32] from rfl) (Reps.none _ _))); intro v414 w76 ho77 hb hg_ hnew_; clear hg_ hnew_; (first | rw [← Ny413.out] at ho77 | (simp only [Int.reduceToNat] at ho77; rw [← Ny413.out] at ho77)); have n0_ := Aside0.mk (Kd.R_elder' (RR HO_1) (Kd.R_base ho77) hb); have n1_ := Aside0.mk (Kd.R_below (RR HO_4) hb); have n2_ := Aside0.mk (Kd.V_elder' (by (with_reducible repeat (first | apply Kd.V_alloc | apply Kd.V_drewN | apply Kd.V_drew)); exact HO403.out) (Kd.R_base ho77) hb); have n3_ := Aside0.mk (Kd.R_elder' (RR HO408) (Kd.R_base ho77) hb); have n4_ := Aside0.mk (Kd.R_below (RR HO411) hb); have n5_ := Aside0.mk (Kd.R_lower (Kd.R_new' (Kd.R_new' ho77 (Kd.R_lt (RR HO_1))) (Kd.R_lt (RR HO408))) (below_size (BB HB))); have n6_ := Aside0.mk (below_step (BB HB) hb); clear HO_1; clear HO_4; clear HO403; clear HO408; clear HO411; clear HB; have HO_1 := n0_; have HO_4 := n1_; have HO403 := n2_; have HO408 := n3_; have HO411 := n4_; have HO415 := n5_; have HB := n6_; clear n0_ n1_ n2_ n3_ n4_ n5_ n6_; clear hb ho77) | ((with_reducible refine gate_dst (N := 83) rfl ?_); (try (refine gate_guard (by rfl) ?_; dsimp only)); refine Kd.R_lit (Kd.int .u8) _ 5 ?hg (N := 83) ?hd (xs := ([126] : List Int)) (inner := [.int .u8 126]) (ok := fun _ => True) (okp := fun _ => True) ?hr ?hp (fun _ hk => hk) trivial (Below.refl _ _) (Nat.le_refl _) (by simp) ?_; (case hd => rfl); (case hg => rfl); (case hr => first | (go_simp; done) | (go_simp; rfl)); (case hp => exact (Reps.one (show Kd.M (Kd.int .u8) _ _ _ 126 [.int .u8 126] from rfl) (Reps.none _ _))); intro v417 w78 ho79 hb hg_ hnew_; clear hg_ hnew_; (first | rw [← Ny416.out] at ho79 | (simp only [Int.reduceToNat] at ho79; rw [← Ny416.out] at ho79)); have n0_ := Aside0.mk (Kd.R_below (RR HO_1) hb); have n1_ := Aside0.mk (Kd.R_elder' (RR HO_4) (Kd.R_base ho79) hb); have n2_ := Aside0.mk (Kd.V_elder' (by (with_reducible repeat (first | apply Kd.V_alloc | apply Kd.V_drewN | apply Kd.V_drew)); exact HO403.out) (Kd.R_base ho79) hb); have n3_ := Aside0.mk (Kd.R_below (RR HO408) hb); have n4_ := Aside0.mk (Kd.R_elder' (RR HO411) (Kd.R_base ho79) hb); have n5_ := Aside0.mk (Kd.R_below (RR HO415) hb); have n6_ := Aside0.mk (Kd.R_lower (Kd.R_new' (Kd.R_new' ho79 (Kd.R_lt (RR HO_4))) (Kd.R_lt (RR HO411))) (below_size (BB HB))); have n7_ := Aside0.mk (below_step (BB HB) hb); clear HO_1; clear HO_4; clear HO403; clear HO408; clear HO411; clear HO415; clear HB; have HO_1 := n0_; have HO_4 := n1_; have HO403 := n2_; have HO408 := n3_; have HO411 := n4_; have HO415 := n5_; have HO418 := n6_; have HB := n7_; clear n0_ n1_ n2_ n3_ n4_ n5_ n6_ n7_; clear hb ho79; obtain ⟨Ao80, co80, eo80⟩ := Kd.R_slice HO415.out; subst eo80; obtain ⟨Ao81, co81, eo81⟩ := Kd.R_slice HO418.out; subst eo81) | (go_at_call 3; (with_reducible refine (selvedgelaw20_OrderResets.calls k3 _ _ y413 _ _ y416 0 0 1 true _ ?side1 ?side2 ?side3 ?side4 A38.out).mono ?_); (case side1 => repeat (first | exact (Kd.R_reads' HO415.out).2.2 | (with_reducible refine Kd.C_alloc ?_ _) | (with_reducible refine Kd.C_drewN ?_ _) | (with_reducible refine Kd.C_drew ?_))); (case side2 => exact (Kd.R_reads' HO415.out).2.1); (case side3 => repeat (first | exact (Kd.R_reads' HO418.out).2.2 | (with_reducible refine Kd.C_alloc ?_ _) | (with_reducible refine Kd.C_drewN ?_ _) | (with_reducible refine Kd.C_drew ?_))); (case side4 => exact (Kd.R_reads' HO418.out).2.1); rintro e w82 ⟨rfl, hb⟩; have n0_ := Aside0.mk (Kd.R_below (RR HO_1) hb); have n1_ := Aside0.mk (Kd.R_below (RR HO_4) hb); have n2_ := Aside0.mk (Kd.V_below (by (with_reducible repeat (first | apply Kd.V_alloc | apply Kd.V_drewN | apply Kd.V_drew)); exact HO403.out) hb); have n3_ := Aside0.mk (Kd.R_below (RR HO408) hb); have n4_ := Aside0.mk (Kd.R_below (RR HO411) hb); have n5_ := Aside0.mk (Kd.R_below (RR HO415) hb); have n6_ := Aside0.mk (Kd.R_below (RR HO418) hb); have n7_ := Aside0.mk (below_step (BB HB) hb); clear HO_1; clear HO_4; clear HO403; clear HO408; clear HO411; clear HO415; clear HO418; clear HB; have HO_1 := n0_; have HO_4 := n1_; have HO403 := n2_; have HO408 := n3_; have HO411 := n4_; have HO415 := n5_; have HO418 := n6_; have HB := n7_; clear n0_ n1_ n2_ n3_ n4_ n5_ n6_ n7_; (try clear hb); (try clear hb2); (try clear hk); (try clear hi)) | (go_at_call 3; (refine (selvedgelaw20_OrderResets.calls k3 _ _ ([] : List Int) _ _ ([] : List Int) 1 0 0 false _ ?side1 ?side2 ?side3 ?side4 A40.out).mono ?_); (case side1 => exact Kd.C_nil _ _); (case side2 => exact Nat.le_refl _); (case side3 => exact Kd.C_nil _ _); (case side4 => exact Nat.le_refl _); rintro e w83 ⟨rfl, hb⟩; have n0_ := Aside0.mk (Kd.R_below (RR HO_1) hb); have n1_ := Aside0.mk (Kd.R_below (RR HO_4) hb); have n2_ := Aside0.mk (Kd.V_below (by (with_reducible repeat (first | apply Kd.V_alloc | apply Kd.V_drewN | apply Kd.V_drew)); exact HO403.out) hb); have n3_ := Aside0.mk (Kd.R_below (RR HO408) hb); have n4_ := Aside0.mk (Kd.R_below (RR HO411) hb); have n5_ := Aside0.mk (Kd.R_below (RR HO415) hb); have n6_ := Aside0.mk (Kd.R_below (RR HO418) hb); have n7_ := Aside0.mk (below_step (BB HB) hb); clear HO_1; clear HO_4; clear HO403; clear HO408; clear HO411; clear HO415; clear HO418; clear HB; have HO_1 := n0_; have HO_4 := n1_; have HO403 := n2_; have HO408 := n3_; have HO411 := n4_; have HO415 := n5_; have HO418 := n6_; have HB := n7_; clear n0_ n1_ n2_ n3_ n4_ n5_ n6_ n7_; (try clear hb); (try clear hb2); (try clear hk); (try clear hi)))
                   go_meet
                   case rel => exact ⟨_, (true), (by first | rfl | (simp; done) | (simp [*]; done)), H', ⟨by have := HK1.out; have := HK2.out; have := HK3.out; first | omega | exact Nat.le_refl _⟩, ⟨BB HB⟩⟩
                 ·replace c39 := Bool.eq_false_iff.mpr c39
                  subst c39
                  have H1 : (selvedgelaw20_OrderKnown.j4 k3 true) = some r := by rw [if_neg (show ¬ (false = true) by decide)] at H; exact H
                  clear H
                  have H := H1
                  clear H1
                  have H' := Aside0.mk H
                  clear H
                  have q84 : (1 : Int) ≤ ((x4_2.length : Int) : Int) := of_decide_eq_true (by first | (with_reducible assumption) | assumption)
                  obtain ⟨i084, hi084, _, hsz84, _⟩ := info_parts info5
                  have hroom84 : x4_2.length ≤ co23 := (Kd.R_reads' HO_4.out).2.1
                  have hC84 : Kd.F (Kd.int .u8) _ _ Ao23 x4_2.length x4_2 := (Kd.V_at (base := w.heap.size) (Kd.R_V (Kd.R_apart' (HO_4.out) (Kd.R_typed HO_1.out) (by decide)))).2.2
                  have hcut84 := cut_from (P := Tryd.prog) 23 5 .i64 Tryd.underlying23 hi084 1 hsz84 Ao23 x4_2.length co23 1 (by omega) q84
                  have hr84 := Kd.F_cut (m := (1 : Int).toNat) (c := co23) hC84 (by omega) hroom84
                  obtain ⟨A84, hA84⟩ : ∃ A1, A1 = (if co23 = (1 : Int).toNat then Ao23 else (Ao23 : Option Addr).map (·.add ((1 : Int).toNat * 1))) := ⟨_, rfl⟩
                  obtain ⟨c84, hc84⟩ : ∃ c1, c1 = co23 - (1 : Int).toNat := ⟨_, rfl⟩
                  have hy84 : y399.length = x4_2.length - (1 : Int).toNat := (by rw [Ny399.out, List.length_drop] <;> omega)
                  rw [show (x4_2).drop (1 : Int).toNat = y399 from Ny399.out.symm] at hr84
                  replace hr84 : Kd.F (Kd.int .u8) _ _ A84 y399.length y399 := (by rw [hA84]; exact hr84)
                  rw [← hy84, ← hA84, ← hc84] at hcut84
                  have HO403 := Aside0.mk (show Kd.V (Kd.int .u8) 5 _ w.heap.size _ (.slice A84 y399.length c84) y399 from Kd.V_mk (by rw [hy84, hc84]; exact Nat.sub_le_sub_right hroom84 _) hr84)
                  have HC403 := Aside0.mk (show y399.length ≤ c84 from by rw [hy84, hc84]; exact Nat.sub_le_sub_right hroom84 _)
                  clear hr84 hC84 hroom84 hi084 hsz84 hc84; have KY84 := Aside0.mk hy84; have KA84 := Aside0.mk hA84; clear hy84 hA84; replace q84 := eq_true q84
                  go_wp2_with (first | ((with_reducible refine gate_callee (f := 3) rfl ?_); refine goesL_ (some 67) rfl rfl Tryd.func3 (by kernel_rfl) rfl #[.slice Ao14 x1_1.length co14, .slice A84 y399.length c84, .int .u8 0, .int .i64 0, .int .i64 1] rfl (by (try simp only [List.map_toArray, List.map_cons, List.map_nil]); first | done | rfl | (simp only [List.length_drop, List.length_take]; rfl)) ?_; (with_reducible refine (selvedgelaw20_OrderResets.calls k3 _ _ x1_1 _ _ y399 0 0 1 true _ ?side1 ?side2 ?side3 ?side4 A32.out).mono ?_); (case side1 => repeat (first | exact (Kd.R_reads' HO_1.out).2.2 | (with_reducible refine Kd.C_alloc ?_ _) | (with_reducible refine Kd.C_drewN ?_ _) | (with_reducible refine Kd.C_drew ?_))); (case side2 => exact (Kd.R_reads' HO_1.out).2.1); (case side3 => repeat (first | exact (Kd.V_reads' HO403.out).2.2 | (with_reducible refine Kd.C_alloc ?_ _) | (with_reducible refine Kd.C_drewN ?_ _) | (with_reducible refine Kd.C_drew ?_))); (case side4 => exact (Kd.V_reads' HO403.out).2.1); rintro e w85 ⟨rfl, hb⟩; refine ⟨_, rfl, ?_⟩; have n0_ := Aside0.mk (Kd.R_below (RR HO_1) hb); have n1_ := Aside0.mk (Kd.R_below (RR HO_4) hb); have n2_ := Aside0.mk (Kd.V_below (by (with_reducible repeat (first | apply Kd.V_alloc | apply Kd.V_drewN | apply Kd.V_drew)); exact HO403.out) hb); have n3_ := Aside0.mk (below_step (BB HB) hb); clear HO_1; clear HO_4; clear HO403; clear HB; have HO_1 := n0_; have HO_4 := n1_; have HO403 := n2_; have HB := n3_; clear n0_ n1_ n2_ n3_; (try clear hb); (try clear hb2); (try clear hk); (try clear hi)) | (go_at_call 3; (with_reducible refine (selvedgelaw20_OrderResets.calls k3 _ _ x1_1 _ _ x4_2 2 0 1 true _ ?side1 ?side2 ?side3 ?side4 A34.out).mono ?_); (case side1 => repeat (first | exact (Kd.R_reads' HO_1.out).2.2 | (with_reducible refine Kd.C_alloc ?_ _) | (with_reducible refine Kd.C_drewN ?_ _) | (with_reducible refine Kd.C_drew ?_))); (case side2 => exact (Kd.R_reads' HO_1.out).2.1); (case side3 => repeat (first | exact (Kd.R_reads' HO_4.out).2.2 | (with_reducible refine Kd.C_alloc ?_ _) | (with_reducible refine Kd.C_drewN ?_ _) | (with_reducible refine Kd.C_drew ?_))); (case side4 => exact (Kd.R_reads' HO_4.out).2.1); rintro e w86 ⟨rfl, hb⟩; have n0_ := Aside0.mk (Kd.R_below (RR HO_1) hb); have n1_ := Aside0.mk (Kd.R_below (RR HO_4) hb); have n2_ := Aside0.mk (Kd.V_below (by (with_reducible repeat (first | apply Kd.V_alloc | apply Kd.V_drewN | apply Kd.V_drew)); exact HO403.out) hb); have n3_ := Aside0.mk (below_step (BB HB) hb); clear HO_1; clear HO_4; clear HO403; clear HB; have HO_1 := n0_; have HO_4 := n1_; have HO403 := n2_; have HB := n3_; clear n0_ n1_ n2_ n3_; (try clear hb); (try clear hb2); (try clear hk); (try clear hi)) | ((with_reducible refine gate_dst (N := 76) rfl ?_); (try (refine gate_guard (by rfl) ?_; dsimp only)); refine Kd.R_lit (Kd.int .i32) _ 21 ?hg (N := 76) ?hd (xs := ([97] : List Int)) (inner := [.int .i32 97]) (ok := fun _ => True) (okp := fun _ => True) ?hr ?hp (fun _ hk => hk) trivial (Below.refl _ _) (Nat.le_refl _) (by simp) ?_; (case hd => rfl); (case hg => rfl); (case hr => first | (go_simp; done) | (go_simp; rfl)); (case hp => exact (Reps.one (show Kd.M (Kd.int .i32) _ _ _ 97 [.int .i32 97] from rfl) (Reps.none _ _))); intro v407 w87 ho88 hb hg_ hnew_; clear hg_ hnew_; (first | rw [← Ny406.out] at ho88 | (simp only [Int.reduceToNat] at ho88; rw [← Ny406.out] at ho88)); have n0_ := Aside0.mk (Kd.R_elder' (RR HO_1) (Kd.R_base ho88) hb); have n1_ := Aside0.mk (Kd.R_below (RR HO_4) hb); have n2_ := Aside0.mk (Kd.V_elder' (by (with_reducible repeat (first | apply Kd.V_alloc | apply Kd.V_drewN | apply Kd.V_drew)); exact HO403.out) (Kd.R_base ho88) hb); have n3_ := Aside0.mk (Kd.R_lower (Kd.R_new' ho88 (Kd.R_lt (RR HO_1))) (below_size (BB HB))); have n4_ := Aside0.mk (below_step (BB HB) hb); clear HO_1; clear HO_4; clear HO403; clear HB; have HO_1 := n0_; have HO_4 := n1_; have HO403 := n2_; have HO408 := n3_; have HB := n4_; clear n0_ n1_ n2_ n3_ n4_; clear hb ho88) | ((with_reducible refine gate_dst (N := 77) rfl ?_); (try (refine gate_guard (by rfl) ?_; dsimp only)); refine Kd.R_lit (Kd.int .u8) _ 5 ?hg (N := 77) ?hd (xs := ([127] : List Int)) (inner := [.int .u8 127]) (ok := fun _ => True) (okp := fun _ => True) ?hr ?hp (fun _ hk => hk) trivial (Below.refl _ _) (Nat.le_refl _) (by simp) ?_; (case hd => rfl); (case hg => rfl); (case hr => first | (go_simp; done) | (go_simp; rfl)); (case hp => exact (Reps.one (show Kd.M (Kd.int .u8) _ _ _ 127 [.int .u8 127] from rfl) (Reps.none _ _))); intro v410 w89 ho90 hb hg_ hnew_; clear hg_ hnew_; (first | rw [← Ny409.out] at ho90 | (simp only [Int.reduceToNat] at ho90; rw [← Ny409.out] at ho90)); have n0_ := Aside0.mk (Kd.R_below (RR HO_1) hb); have n1_ := Aside0.mk (Kd.R_elder' (RR HO_4) (Kd.R_base ho90) hb); have n2_ := Aside0.mk (Kd.V_elder' (by (with_reducible repeat (first | apply Kd.V_alloc | apply Kd.V_drewN | apply Kd.V_drew)); exact HO403.out) (Kd.R_base ho90) hb); have n3_ := Aside0.mk (Kd.R_below (RR HO408) hb); have n4_ := Aside0.mk (Kd.R_lower (Kd.R_new' ho90 (Kd.R_lt (RR HO_4))) (below_size (BB HB))); have n5_ := Aside0.mk (below_step (BB HB) hb); clear HO_1; clear HO_4; clear HO403; clear HO408; clear HB; have HO_1 := n0_; have HO_4 := n1_; have HO403 := n2_; have HO408 := n3_; have HO411 := n4_; have HB := n5_; clear n0_ n1_ n2_ n3_ n4_ n5_; clear hb ho90; obtain ⟨Ao91, co91, eo91⟩ := Kd.R_slice HO408.out; subst eo91; obtain ⟨Ao92, co92, eo92⟩ := Kd.R_slice HO411.out; subst eo92) | (go_at_call 3; (with_reducible refine (selvedgelaw20_OrderResets.calls k3 _ _ y406 _ _ y409 0 0 1 true _ ?side1 ?side2 ?side3 ?side4 A36.out).mono ?_); (case side1 => repeat (first | exact (Kd.R_reads' HO408.out).2.2 | (with_reducible refine Kd.C_alloc ?_ _) | (with_reducible refine Kd.C_drewN ?_ _) | (with_reducible refine Kd.C_drew ?_))); (case side2 => exact (Kd.R_reads' HO408.out).2.1); (case side3 => repeat (first | exact (Kd.R_reads' HO411.out).2.2 | (with_reducible refine Kd.C_alloc ?_ _) | (with_reducible refine Kd.C_drewN ?_ _) | (with_reducible refine Kd.C_drew ?_))); (case side4 => exact (Kd.R_reads' HO411.out).2.1); rintro e w93 ⟨rfl, hb⟩; have n0_ := Aside0.mk (Kd.R_below (RR HO_1) hb); have n1_ := Aside0.mk (Kd.R_below (RR HO_4) hb); have n2_ := Aside0.mk (Kd.V_below (by (with_reducible repeat (first | apply Kd.V_alloc | apply Kd.V_drewN | apply Kd.V_drew)); exact HO403.out) hb); have n3_ := Aside0.mk (Kd.R_below (RR HO408) hb); have n4_ := Aside0.mk (Kd.R_below (RR HO411) hb); have n5_ := Aside0.mk (below_step (BB HB) hb); clear HO_1; clear HO_4; clear HO403; clear HO408; clear HO411; clear HB; have HO_1 := n0_; have HO_4 := n1_; have HO403 := n2_; have HO408 := n3_; have HO411 := n4_; have HB := n5_; clear n0_ n1_ n2_ n3_ n4_ n5_; (try clear hb); (try clear hb2); (try clear hk); (try clear hi)) | ((with_reducible refine gate_dst (N := 82) rfl ?_); (try (refine gate_guard (by rfl) ?_; dsimp only)); refine Kd.R_lit (Kd.int .i32) _ 21 ?hg (N := 82) ?hd (xs := ([32] : List Int)) (inner := [.int .i32 32]) (ok := fun _ => True) (okp := fun _ => True) ?hr ?hp (fun _ hk => hk) trivial (Below.refl _ _) (Nat.le_refl _) (by simp) ?_; (case hd => rfl); (case hg => rfl); (case hr => first | (go_simp; done) | (go_simp; rfl)); (case hp => exact (Reps.one (show Kd.M (Kd.int .i32) _ _ _ 32 [.int .i32 32] from rfl) (Reps.none _ _))); intro v414 w94 ho95 hb hg_ hnew_; clear hg_ hnew_; (first | rw [← Ny413.out] at ho95 | (simp only [Int.reduceToNat] at ho95; rw [← Ny413.out] at ho95)); have n0_ := Aside0.mk (Kd.R_elder' (RR HO_1) (Kd.R_base ho95) hb); have n1_ := Aside0.mk (Kd.R_below (RR HO_4) hb); have n2_ := Aside0.mk (Kd.V_elder' (by (with_reducible repeat (first | apply Kd.V_alloc | apply Kd.V_drewN | apply Kd.V_drew)); exact HO403.out) (Kd.R_base ho95) hb); have n3_ := Aside0.mk (Kd.R_elder' (RR HO408) (Kd.R_base ho95) hb); have n4_ := Aside0.mk (Kd.R_below (RR HO411) hb); have n5_ := Aside0.mk (Kd.R_lower (Kd.R_new' (Kd.R_new' ho95 (Kd.R_lt (RR HO_1))) (Kd.R_lt (RR HO408))) (below_size (BB HB))); have n6_ := Aside0.mk (below_step (BB HB) hb); clear HO_1; clear HO_4; clear HO403; clear HO408; clear HO411; clear HB; have HO_1 := n0_; have HO_4 := n1_; have HO403 := n2_; have HO408 := n3_; have HO411 := n4_; have HO415 := n5_; have HB := n6_; clear n0_ n1_ n2_ n3_ n4_ n5_ n6_; clear hb ho95) | ((with_reducible refine gate_dst (N := 83) rfl ?_); (try (refine gate_guard (by rfl) ?_; dsimp only)); refine Kd.R_lit (Kd.int .u8) _ 5 ?hg (N := 83) ?hd (xs := ([126] : List Int)) (inner := [.int .u8 126]) (ok := fun _ => True) (okp := fun _ => True) ?hr ?hp (fun _ hk => hk) trivial (Below.refl _ _) (Nat.le_refl _) (by simp) ?_; (case hd => rfl); (case hg => rfl); (case hr => first | (go_simp; done) | (go_simp; rfl)); (case hp => exact (Reps.one (show Kd.M (Kd.int .u8) _ _ _ 126 [.int .u8 126] from rfl) (Reps.none _ _))); intro v417 w96 ho97 hb hg_ hnew_; clear hg_ hnew_; (first | rw [← Ny416.out] at ho97 | (simp only [Int.reduceToNat] at ho97; rw [← Ny416.out] at ho97)); have n0_ := Aside0.mk (Kd.R_below (RR HO_1) hb); have n1_ := Aside0.mk (Kd.R_elder' (RR HO_4) (Kd.R_base ho97) hb); have n2_ := Aside0.mk (Kd.V_elder' (by (with_reducible repeat (first | apply Kd.V_alloc | apply Kd.V_drewN | apply Kd.V_drew)); exact HO403.out) (Kd.R_base ho97) hb); have n3_ := Aside0.mk (Kd.R_below (RR HO408) hb); have n4_ := Aside0.mk (Kd.R_elder' (RR HO411) (Kd.R_base ho97) hb); have n5_ := Aside0.mk (Kd.R_below (RR HO415) hb); have n6_ := Aside0.mk (Kd.R_lower (Kd.R_new' (Kd.R_new' ho97 (Kd.R_lt (RR HO_4))) (Kd.R_lt (RR HO411))) (below_size (BB HB))); have n7_ := Aside0.mk (below_step (BB HB) hb); clear HO_1; clear HO_4; clear HO403; clear HO408; clear HO411; clear HO415; clear HB; have HO_1 := n0_; have HO_4 := n1_; have HO403 := n2_; have HO408 := n3_; have HO411 := n4_; have HO415 := n5_; have HO418 := n6_; have HB := n7_; clear n0_ n1_ n2_ n3_ n4_ n5_ n6_ n7_; clear hb ho97; obtain ⟨Ao98, co98, eo98⟩ := Kd.R_slice HO415.out; subst eo98; obtain ⟨Ao99, co99, eo99⟩ := Kd.R_slice HO418.out; subst eo99) | (go_at_call 3; (with_reducible refine (selvedgelaw20_OrderResets.calls k3 _ _ y413 _ _ y416 0 0 1 false _ ?side1 ?side2 ?side3 ?side4 A38.out).mono ?_); (case side1 => repeat (first | exact (Kd.R_reads' HO415.out).2.2 | (with_reducible refine Kd.C_alloc ?_ _) | (with_reducible refine Kd.C_drewN ?_ _) | (with_reducible refine Kd.C_drew ?_))); (case side2 => exact (Kd.R_reads' HO415.out).2.1); (case side3 => repeat (first | exact (Kd.R_reads' HO418.out).2.2 | (with_reducible refine Kd.C_alloc ?_ _) | (with_reducible refine Kd.C_drewN ?_ _) | (with_reducible refine Kd.C_drew ?_))); (case side4 => exact (Kd.R_reads' HO418.out).2.1); rintro e w100 ⟨rfl, hb⟩; have n0_ := Aside0.mk (Kd.R_below (RR HO_1) hb); have n1_ := Aside0.mk (Kd.R_below (RR HO_4) hb); have n2_ := Aside0.mk (Kd.V_below (by (with_reducible repeat (first | apply Kd.V_alloc | apply Kd.V_drewN | apply Kd.V_drew)); exact HO403.out) hb); have n3_ := Aside0.mk (Kd.R_below (RR HO408) hb); have n4_ := Aside0.mk (Kd.R_below (RR HO411) hb); have n5_ := Aside0.mk (Kd.R_below (RR HO415) hb); have n6_ := Aside0.mk (Kd.R_below (RR HO418) hb); have n7_ := Aside0.mk (below_step (BB HB) hb); clear HO_1; clear HO_4; clear HO403; clear HO408; clear HO411; clear HO415; clear HO418; clear HB; have HO_1 := n0_; have HO_4 := n1_; have HO403 := n2_; have HO408 := n3_; have HO411 := n4_; have HO415 := n5_; have HO418 := n6_; have HB := n7_; clear n0_ n1_ n2_ n3_ n4_ n5_ n6_ n7_; (try clear hb); (try clear hb2); (try clear hk); (try clear hi)))
                  go_meet
                  case rel => exact ⟨_, (true), (by first | rfl | (simp; done) | (simp [*]; done)), H', ⟨by have := HK1.out; have := HK2.out; have := HK3.out; first | omega | exact Nat.le_refl _⟩, ⟨BB HB⟩⟩
                ·replace c37 := Bool.eq_false_iff.mpr c37
                 subst c37
                 have H1 : (selvedgelaw20_OrderKnown.j4 k3 true) = some r := by rw [if_neg (show ¬ (false = true) by decide)] at H; exact H
                 clear H
                 have H := H1
                 clear H1
                 have H' := Aside0.mk H
                 clear H
                 have q101 : (1 : Int) ≤ ((x4_2.length : Int) : Int) := of_decide_eq_true (by first | (with_reducible assumption) | assumption)
                 obtain ⟨i0101, hi0101, _, hsz101, _⟩ := info_parts info5
                 have hroom101 : x4_2.length ≤ co23 := (Kd.R_reads' HO_4.out).2.1
                 have hC101 : Kd.F (Kd.int .u8) _ _ Ao23 x4_2.length x4_2 := (Kd.V_at (base := w.heap.size) (Kd.R_V (Kd.R_apart' (HO_4.out) (Kd.R_typed HO_1.out) (by decide)))).2.2
                 have hcut101 := cut_from (P := Tryd.prog) 23 5 .i64 Tryd.underlying23 hi0101 1 hsz101 Ao23 x4_2.length co23 1 (by omega) q101
                 have hr101 := Kd.F_cut (m := (1 : Int).toNat) (c := co23) hC101 (by omega) hroom101
                 obtain ⟨A101, hA101⟩ : ∃ A1, A1 = (if co23 = (1 : Int).toNat then Ao23 else (Ao23 : Option Addr).map (·.add ((1 : Int).toNat * 1))) := ⟨_, rfl⟩
                 obtain ⟨c101, hc101⟩ : ∃ c1, c1 = co23 - (1 : Int).toNat := ⟨_, rfl⟩
                 have hy101 : y399.length = x4_2.length - (1 : Int).toNat := (by rw [Ny399.out, List.length_drop] <;> omega)
                 rw [show (x4_2).drop (1 : Int).toNat = y399 from Ny399.out.symm] at hr101
                 replace hr101 : Kd.F (Kd.int .u8) _ _ A101 y399.length y399 := (by rw [hA101]; exact hr101)
                 rw [← hy101, ← hA101, ← hc101] at hcut101
                 have HO403 := Aside0.mk (show Kd.V (Kd.int .u8) 5 _ w.heap.size _ (.slice A101 y399.length c101) y399 from Kd.V_mk (by rw [hy101, hc101]; exact Nat.sub_le_sub_right hroom101 _) hr101)
                 have HC403 := Aside0.mk (show y399.length ≤ c101 from by rw [hy101, hc101]; exact Nat.sub_le_sub_right hroom101 _)
                 clear hr101 hC101 hroom101 hi0101 hsz101 hc101; have KY101 := Aside0.mk hy101; have KA101 := Aside0.mk hA101; clear hy101 hA101; replace q101 := eq_true q101
                 go_wp2_with (first | ((with_reducible refine gate_callee (f := 3) rfl ?_); refine goesL_ (some 67) rfl rfl Tryd.func3 (by kernel_rfl) rfl #[.slice Ao14 x1_1.length co14, .slice A101 y399.length c101, .int .u8 0, .int .i64 0, .int .i64 1] rfl (by (try simp only [List.map_toArray, List.map_cons, List.map_nil]); first | done | rfl | (simp only [List.length_drop, List.length_take]; rfl)) ?_; (with_reducible refine (selvedgelaw20_OrderResets.calls k3 _ _ x1_1 _ _ y399 0 0 1 true _ ?side1 ?side2 ?side3 ?side4 A32.out).mono ?_); (case side1 => repeat (first | exact (Kd.R_reads' HO_1.out).2.2 | (with_reducible refine Kd.C_alloc ?_ _) | (with_reducible refine Kd.C_drewN ?_ _) | (with_reducible refine Kd.C_drew ?_))); (case side2 => exact (Kd.R_reads' HO_1.out).2.1); (case side3 => repeat (first | exact (Kd.V_reads' HO403.out).2.2 | (with_reducible refine Kd.C_alloc ?_ _) | (with_reducible refine Kd.C_drewN ?_ _) | (with_reducible refine Kd.C_drew ?_))); (case side4 => exact (Kd.V_reads' HO403.out).2.1); rintro e w102 ⟨rfl, hb⟩; refine ⟨_, rfl, ?_⟩; have n0_ := Aside0.mk (Kd.R_below (RR HO_1) hb); have n1_ := Aside0.mk (Kd.R_below (RR HO_4) hb); have n2_ := Aside0.mk (Kd.V_below (by (with_reducible repeat (first | apply Kd.V_alloc | apply Kd.V_drewN | apply Kd.V_drew)); exact HO403.out) hb); have n3_ := Aside0.mk (below_step (BB HB) hb); clear HO_1; clear HO_4; clear HO403; clear HB; have HO_1 := n0_; have HO_4 := n1_; have HO403 := n2_; have HB := n3_; clear n0_ n1_ n2_ n3_; (try clear hb); (try clear hb2); (try clear hk); (try clear hi)) | (go_at_call 3; (with_reducible refine (selvedgelaw20_OrderResets.calls k3 _ _ x1_1 _ _ x4_2 2 0 1 true _ ?side1 ?side2 ?side3 ?side4 A34.out).mono ?_); (case side1 => repeat (first | exact (Kd.R_reads' HO_1.out).2.2 | (with_reducible refine Kd.C_alloc ?_ _) | (with_reducible refine Kd.C_drewN ?_ _) | (with_reducible refine Kd.C_drew ?_))); (case side2 => exact (Kd.R_reads' HO_1.out).2.1); (case side3 => repeat (first | exact (Kd.R_reads' HO_4.out).2.2 | (with_reducible refine Kd.C_alloc ?_ _) | (with_reducible refine Kd.C_drewN ?_ _) | (with_reducible refine Kd.C_drew ?_))); (case side4 => exact (Kd.R_reads' HO_4.out).2.1); rintro e w103 ⟨rfl, hb⟩; have n0_ := Aside0.mk (Kd.R_below (RR HO_1) hb); have n1_ := Aside0.mk (Kd.R_below (RR HO_4) hb); have n2_ := Aside0.mk (Kd.V_below (by (with_reducible repeat (first | apply Kd.V_alloc | apply Kd.V_drewN | apply Kd.V_drew)); exact HO403.out) hb); have n3_ := Aside0.mk (below_step (BB HB) hb); clear HO_1; clear HO_4; clear HO403; clear HB; have HO_1 := n0_; have HO_4 := n1_; have HO403 := n2_; have HB := n3_; clear n0_ n1_ n2_ n3_; (try clear hb); (try clear hb2); (try clear hk); (try clear hi)) | ((with_reducible refine gate_dst (N := 76) rfl ?_); (try (refine gate_guard (by rfl) ?_; dsimp only)); refine Kd.R_lit (Kd.int .i32) _ 21 ?hg (N := 76) ?hd (xs := ([97] : List Int)) (inner := [.int .i32 97]) (ok := fun _ => True) (okp := fun _ => True) ?hr ?hp (fun _ hk => hk) trivial (Below.refl _ _) (Nat.le_refl _) (by simp) ?_; (case hd => rfl); (case hg => rfl); (case hr => first | (go_simp; done) | (go_simp; rfl)); (case hp => exact (Reps.one (show Kd.M (Kd.int .i32) _ _ _ 97 [.int .i32 97] from rfl) (Reps.none _ _))); intro v407 w104 ho105 hb hg_ hnew_; clear hg_ hnew_; (first | rw [← Ny406.out] at ho105 | (simp only [Int.reduceToNat] at ho105; rw [← Ny406.out] at ho105)); have n0_ := Aside0.mk (Kd.R_elder' (RR HO_1) (Kd.R_base ho105) hb); have n1_ := Aside0.mk (Kd.R_below (RR HO_4) hb); have n2_ := Aside0.mk (Kd.V_elder' (by (with_reducible repeat (first | apply Kd.V_alloc | apply Kd.V_drewN | apply Kd.V_drew)); exact HO403.out) (Kd.R_base ho105) hb); have n3_ := Aside0.mk (Kd.R_lower (Kd.R_new' ho105 (Kd.R_lt (RR HO_1))) (below_size (BB HB))); have n4_ := Aside0.mk (below_step (BB HB) hb); clear HO_1; clear HO_4; clear HO403; clear HB; have HO_1 := n0_; have HO_4 := n1_; have HO403 := n2_; have HO408 := n3_; have HB := n4_; clear n0_ n1_ n2_ n3_ n4_; clear hb ho105) | ((with_reducible refine gate_dst (N := 77) rfl ?_); (try (refine gate_guard (by rfl) ?_; dsimp only)); refine Kd.R_lit (Kd.int .u8) _ 5 ?hg (N := 77) ?hd (xs := ([127] : List Int)) (inner := [.int .u8 127]) (ok := fun _ => True) (okp := fun _ => True) ?hr ?hp (fun _ hk => hk) trivial (Below.refl _ _) (Nat.le_refl _) (by simp) ?_; (case hd => rfl); (case hg => rfl); (case hr => first | (go_simp; done) | (go_simp; rfl)); (case hp => exact (Reps.one (show Kd.M (Kd.int .u8) _ _ _ 127 [.int .u8 127] from rfl) (Reps.none _ _))); intro v410 w106 ho107 hb hg_ hnew_; clear hg_ hnew_; (first | rw [← Ny409.out] at ho107 | (simp only [Int.reduceToNat] at ho107; rw [← Ny409.out] at ho107)); have n0_ := Aside0.mk (Kd.R_below (RR HO_1) hb); have n1_ := Aside0.mk (Kd.R_elder' (RR HO_4) (Kd.R_base ho107) hb); have n2_ := Aside0.mk (Kd.V_elder' (by (with_reducible repeat (first | apply Kd.V_alloc | apply Kd.V_drewN | apply Kd.V_drew)); exact HO403.out) (Kd.R_base ho107) hb); have n3_ := Aside0.mk (Kd.R_below (RR HO408) hb); have n4_ := Aside0.mk (Kd.R_lower (Kd.R_new' ho107 (Kd.R_lt (RR HO_4))) (below_size (BB HB))); have n5_ := Aside0.mk (below_step (BB HB) hb); clear HO_1; clear HO_4; clear HO403; clear HO408; clear HB; have HO_1 := n0_; have HO_4 := n1_; have HO403 := n2_; have HO408 := n3_; have HO411 := n4_; have HB := n5_; clear n0_ n1_ n2_ n3_ n4_ n5_; clear hb ho107; obtain ⟨Ao108, co108, eo108⟩ := Kd.R_slice HO408.out; subst eo108; obtain ⟨Ao109, co109, eo109⟩ := Kd.R_slice HO411.out; subst eo109) | (go_at_call 3; (with_reducible refine (selvedgelaw20_OrderResets.calls k3 _ _ y406 _ _ y409 0 0 1 false _ ?side1 ?side2 ?side3 ?side4 A36.out).mono ?_); (case side1 => repeat (first | exact (Kd.R_reads' HO408.out).2.2 | (with_reducible refine Kd.C_alloc ?_ _) | (with_reducible refine Kd.C_drewN ?_ _) | (with_reducible refine Kd.C_drew ?_))); (case side2 => exact (Kd.R_reads' HO408.out).2.1); (case side3 => repeat (first | exact (Kd.R_reads' HO411.out).2.2 | (with_reducible refine Kd.C_alloc ?_ _) | (with_reducible refine Kd.C_drewN ?_ _) | (with_reducible refine Kd.C_drew ?_))); (case side4 => exact (Kd.R_reads' HO411.out).2.1); rintro e w110 ⟨rfl, hb⟩; have n0_ := Aside0.mk (Kd.R_below (RR HO_1) hb); have n1_ := Aside0.mk (Kd.R_below (RR HO_4) hb); have n2_ := Aside0.mk (Kd.V_below (by (with_reducible repeat (first | apply Kd.V_alloc | apply Kd.V_drewN | apply Kd.V_drew)); exact HO403.out) hb); have n3_ := Aside0.mk (Kd.R_below (RR HO408) hb); have n4_ := Aside0.mk (Kd.R_below (RR HO411) hb); have n5_ := Aside0.mk (below_step (BB HB) hb); clear HO_1; clear HO_4; clear HO403; clear HO408; clear HO411; clear HB; have HO_1 := n0_; have HO_4 := n1_; have HO403 := n2_; have HO408 := n3_; have HO411 := n4_; have HB := n5_; clear n0_ n1_ n2_ n3_ n4_ n5_; (try clear hb); (try clear hb2); (try clear hk); (try clear hi)))
                 go_meet
                 case rel => exact ⟨_, (true), (by first | rfl | (simp; done) | (simp [*]; done)), H', ⟨by have := HK1.out; have := HK2.out; have := HK3.out; first | omega | exact Nat.le_refl _⟩, ⟨BB HB⟩⟩
               ·replace c35 := Bool.eq_false_iff.mpr c35
                subst c35
                have H1 : (selvedgelaw20_OrderKnown.j4 k3 true) = some r := by rw [if_neg (show ¬ (false = true) by decide)] at H; exact H
                clear H
                have H := H1
                clear H1
                have H' := Aside0.mk H
                clear H
                have q111 : (1 : Int) ≤ ((x4_2.length : Int) : Int) := of_decide_eq_true (by first | (with_reducible assumption) | assumption)
                obtain ⟨i0111, hi0111, _, hsz111, _⟩ := info_parts info5
                have hroom111 : x4_2.length ≤ co23 := (Kd.R_reads' HO_4.out).2.1
                have hC111 : Kd.F (Kd.int .u8) _ _ Ao23 x4_2.length x4_2 := (Kd.V_at (base := w.heap.size) (Kd.R_V (Kd.R_apart' (HO_4.out) (Kd.R_typed HO_1.out) (by decide)))).2.2
                have hcut111 := cut_from (P := Tryd.prog) 23 5 .i64 Tryd.underlying23 hi0111 1 hsz111 Ao23 x4_2.length co23 1 (by omega) q111
                have hr111 := Kd.F_cut (m := (1 : Int).toNat) (c := co23) hC111 (by omega) hroom111
                obtain ⟨A111, hA111⟩ : ∃ A1, A1 = (if co23 = (1 : Int).toNat then Ao23 else (Ao23 : Option Addr).map (·.add ((1 : Int).toNat * 1))) := ⟨_, rfl⟩
                obtain ⟨c111, hc111⟩ : ∃ c1, c1 = co23 - (1 : Int).toNat := ⟨_, rfl⟩
                have hy111 : y399.length = x4_2.length - (1 : Int).toNat := (by rw [Ny399.out, List.length_drop] <;> omega)
                rw [show (x4_2).drop (1 : Int).toNat = y399 from Ny399.out.symm] at hr111
                replace hr111 : Kd.F (Kd.int .u8) _ _ A111 y399.length y399 := (by rw [hA111]; exact hr111)
                rw [← hy111, ← hA111, ← hc111] at hcut111
                have HO403 := Aside0.mk (show Kd.V (Kd.int .u8) 5 _ w.heap.size _ (.slice A111 y399.length c111) y399 from Kd.V_mk (by rw [hy111, hc111]; exact Nat.sub_le_sub_right hroom111 _) hr111)
                have HC403 := Aside0.mk (show y399.length ≤ c111 from by rw [hy111, hc111]; exact Nat.sub_le_sub_right hroom111 _)
                clear hr111 hC111 hroom111 hi0111 hsz111 hc111; have KY111 := Aside0.mk hy111; have KA111 := Aside0.mk hA111; clear hy111 hA111; replace q111 := eq_true q111
                go_wp2_with (first | ((with_reducible refine gate_callee (f := 3) rfl ?_); refine goesL_ (some 67) rfl rfl Tryd.func3 (by kernel_rfl) rfl #[.slice Ao14 x1_1.length co14, .slice A111 y399.length c111, .int .u8 0, .int .i64 0, .int .i64 1] rfl (by (try simp only [List.map_toArray, List.map_cons, List.map_nil]); first | done | rfl | (simp only [List.length_drop, List.length_take]; rfl)) ?_; (with_reducible refine (selvedgelaw20_OrderResets.calls k3 _ _ x1_1 _ _ y399 0 0 1 true _ ?side1 ?side2 ?side3 ?side4 A32.out).mono ?_); (case side1 => repeat (first | exact (Kd.R_reads' HO_1.out).2.2 | (with_reducible refine Kd.C_alloc ?_ _) | (with_reducible refine Kd.C_drewN ?_ _) | (with_reducible refine Kd.C_drew ?_))); (case side2 => exact (Kd.R_reads' HO_1.out).2.1); (case side3 => repeat (first | exact (Kd.V_reads' HO403.out).2.2 | (with_reducible refine Kd.C_alloc ?_ _) | (with_reducible refine Kd.C_drewN ?_ _) | (with_reducible refine Kd.C_drew ?_))); (case side4 => exact (Kd.V_reads' HO403.out).2.1); rintro e w112 ⟨rfl, hb⟩; refine ⟨_, rfl, ?_⟩; have n0_ := Aside0.mk (Kd.R_below (RR HO_1) hb); have n1_ := Aside0.mk (Kd.R_below (RR HO_4) hb); have n2_ := Aside0.mk (Kd.V_below (by (with_reducible repeat (first | apply Kd.V_alloc | apply Kd.V_drewN | apply Kd.V_drew)); exact HO403.out) hb); have n3_ := Aside0.mk (below_step (BB HB) hb); clear HO_1; clear HO_4; clear HO403; clear HB; have HO_1 := n0_; have HO_4 := n1_; have HO403 := n2_; have HB := n3_; clear n0_ n1_ n2_ n3_; (try clear hb); (try clear hb2); (try clear hk); (try clear hi)) | (go_at_call 3; (with_reducible refine (selvedgelaw20_OrderResets.calls k3 _ _ x1_1 _ _ x4_2 2 0 1 false _ ?side1 ?side2 ?side3 ?side4 A34.out).mono ?_); (case side1 => repeat (first | exact (Kd.R_reads' HO_1.out).2.2 | (with_reducible refine Kd.C_alloc ?_ _) | (with_reducible refine Kd.C_drewN ?_ _) | (with_reducible refine Kd.C_drew ?_))); (case side2 => exact (Kd.R_reads' HO_1.out).2.1); (case side3 => repeat (first | exact (Kd.R_reads' HO_4.out).2.2 | (with_reducible refine Kd.C_alloc ?_ _) | (with_reducible refine Kd.C_drewN ?_ _) | (with_reducible refine Kd.C_drew ?_))); (case side4 => exact (Kd.R_reads' HO_4.out).2.1); rintro e w113 ⟨rfl, hb⟩; have n0_ := Aside0.mk (Kd.R_below (RR HO_1) hb); have n1_ := Aside0.mk (Kd.R_below (RR HO_4) hb); have n2_ := Aside0.mk (Kd.V_below (by (with_reducible repeat (first | apply Kd.V_alloc | apply Kd.V_drewN | apply Kd.V_drew)); exact HO403.out) hb); have n3_ := Aside0.mk (below_step (BB HB) hb); clear HO_1; clear HO_4; clear HO403; clear HB; have HO_1 := n0_; have HO_4 := n1_; have HO403 := n2_; have HB := n3_; clear n0_ n1_ n2_ n3_; (try clear hb); (try clear hb2); (try clear hk); (try clear hi)))
                go_meet
                case rel => exact ⟨_, (true), (by first | rfl | (simp; done) | (simp [*]; done)), H', ⟨by have := HK1.out; have := HK2.out; have := HK3.out; first | omega | exact Nat.le_refl _⟩, ⟨BB HB⟩⟩
              ·replace c33 := Bool.eq_false_iff.mpr c33
               subst c33
               have H1 : (selvedgelaw20_OrderKnown.j4 k3 true) = some r := by rw [if_neg (show ¬ (false = true) by decide)] at H; exact H
               clear H
               have H := H1
               clear H1
               have H' := Aside0.mk H
               clear H
               have q114 : (1 : Int) ≤ ((x4_2.length : Int) : Int) := of_decide_eq_true (by first | (with_reducible assumption) | assumption)
               obtain ⟨i0114, hi0114, _, hsz114, _⟩ := info_parts info5
               have hroom114 : x4_2.length ≤ co23 := (Kd.R_reads' HO_4.out).2.1
               have hC114 : Kd.F (Kd.int .u8) _ _ Ao23 x4_2.length x4_2 := (Kd.V_at (base := w.heap.size) (Kd.R_V (Kd.R_apart' (HO_4.out) (Kd.R_typed HO_1.out) (by decide)))).2.2
               have hcut114 := cut_from (P := Tryd.prog) 23 5 .i64 Tryd.underlying23 hi0114 1 hsz114 Ao23 x4_2.length co23 1 (by omega) q114
               have hr114 := Kd.F_cut (m := (1 : Int).toNat) (c := co23) hC114 (by omega) hroom114
               obtain ⟨A114, hA114⟩ : ∃ A1, A1 = (if co23 = (1 : Int).toNat then Ao23 else (Ao23 : Option Addr).map (·.add ((1 : Int).toNat * 1))) := ⟨_, rfl⟩
               obtain ⟨c114, hc114⟩ : ∃ c1, c1 = co23 - (1 : Int).toNat := ⟨_, rfl⟩
               have hy114 : y399.length = x4_2.length - (1 : Int).toNat := (by rw [Ny399.out, List.length_drop] <;> omega)
               rw [show (x4_2).drop (1 : Int).toNat = y399 from Ny399.out.symm] at hr114
               replace hr114 : Kd.F (Kd.int .u8) _ _ A114 y399.length y399 := (by rw [hA114]; exact hr114)
               rw [← hy114, ← hA114, ← hc114] at hcut114
               have HO403 := Aside0.mk (show Kd.V (Kd.int .u8) 5 _ w.heap.size _ (.slice A114 y399.length c114) y399 from Kd.V_mk (by rw [hy114, hc114]; exact Nat.sub_le_sub_right hroom114 _) hr114)
               have HC403 := Aside0.mk (show y399.length ≤ c114 from by rw [hy114, hc114]; exact Nat.sub_le_sub_right hroom114 _)
               clear hr114 hC114 hroom114 hi0114 hsz114 hc114; have KY114 := Aside0.mk hy114; have KA114 := Aside0.mk hA114; clear hy114 hA114; replace q114 := eq_true q114
               go_wp2_with (first | ((with_reducible refine gate_callee (f := 3) rfl ?_); refine goesL_ (some 67) rfl rfl Tryd.func3 (by kernel_rfl) rfl #[.slice Ao14 x1_1.length co14, .slice A114 y399.length c114, .int .u8 0, .int .i64 0, .int .i64 1] rfl (by (try simp only [List.map_toArray, List.map_cons, List.map_nil]); first | done | rfl | (simp only [List.length_drop, List.length_take]; rfl)) ?_; (with_reducible refine (selvedgelaw20_OrderResets.calls k3 _ _ x1_1 _ _ y399 0 0 1 false _ ?side1 ?side2 ?side3 ?side4 A32.out).mono ?_); (case side1 => repeat (first | exact (Kd.R_reads' HO_1.out).2.2 | (with_reducible refine Kd.C_alloc ?_ _) | (with_reducible refine Kd.C_drewN ?_ _) | (with_reducible refine Kd.C_drew ?_))); (case side2 => exact (Kd.R_reads' HO_1.out).2.1); (case side3 => repeat (first | exact (Kd.V_reads' HO403.out).2.2 | (with_reducible refine Kd.C_alloc ?_ _) | (with_reducible refine Kd.C_drewN ?_ _) | (with_reducible refine Kd.C_drew ?_))); (case side4 => exact (Kd.V_reads' HO403.out).2.1); rintro e w115 ⟨rfl, hb⟩; refine ⟨_, rfl, ?_⟩; have n0_ := Aside0.mk (Kd.R_below (RR HO_1) hb); have n1_ := Aside0.mk (Kd.R_below (RR HO_4) hb); have n2_ := Aside0.mk (Kd.V_below (by (with_reducible repeat (first | apply Kd.V_alloc | apply Kd.V_drewN | apply Kd.V_drew)); exact HO403.out) hb); have n3_ := Aside0.mk (below_step (BB HB) hb); clear HO_1; clear HO_4; clear HO403; clear HB; have HO_1 := n0_; have HO_4 := n1_; have HO403 := n2_; have HB := n3_; clear n0_ n1_ n2_ n3_; (try clear hb); (try clear hb2); (try clear hk); (try clear hi)))
               go_meet
               case rel => exact ⟨_, (true), (by first | rfl | (simp; done) | (simp [*]; done)), H', ⟨by have := HK1.out; have := HK2.out; have := HK3.out; first | omega | exact Nat.le_refl _⟩, ⟨BB HB⟩⟩
             ·rw [if_neg c31] at H
              exact absurd H (by simp)
            case rest =>
             clear HC30; (try clear c1); (try clear p1); (try clear q1); (try clear hx1); (try clear hf1); (try clear c2); (try clear p2); (try clear c3); (try clear p3); (try clear q3); (try clear hx3); (try clear c4); (try clear c4b0); (try clear q4); (try clear c5); (try clear c5b0); (try clear c6); (try clear c6b0); (try clear p6); (try clear q6); (try clear c7); (try clear c8); (try clear q8); (try clear c9); (try clear c10); (try clear q10); (try clear c11); (try clear q11); (try clear c12); (try clear c12b0); (try clear c12b1); (try clear c13); (try clear c13b0); (try clear c13b1); (try clear c17); (try clear c17b0); (try clear c18); (try clear c18b0); (try clear p19); (try clear q19); (try clear hx19); (try clear hf19); (try clear c24); (try clear c24b0); (try clear c25); (try clear c25b0); (try clear c27); (try clear c31); (try clear c31b0); (try clear c31b1); (try clear c33); (try clear c35); (try clear c37); (try clear p38); (try clear q38); (try clear hx38); (try clear c39); (try clear c41); (try clear c42); (try clear c42b0); (try clear c42b1); (try clear c44); (try clear q44); (try clear p64); (try clear c66); (try clear q66); (try clear c84); (try clear q84); (try clear c101); (try clear q101); (try clear c111); (try clear q111); (try clear c114); (try clear q114); (try clear hx19_0); (try clear hx387_0); (try clear p1); (try clear p19); (try clear p2); (try clear p3); (try clear p387); (try clear p6); (try clear q1); (try clear q101); (try clear q111); (try clear q114); (try clear q19); (try clear q3); (try clear q387); (try clear q44); (try clear q66); (try clear q84)
             obtain ⟨kq, x95_29, rfl, HA, HJ29, HB⟩ := hcut
             cases kq with
             | zero => exact absurd HA.out (by simp [selvedgelaw20_OrderKnown.j4])
             | succ kj29 =>
              have H := HA.out
              clear HA
              simp only [selvedgelaw20_OrderKnown.j4] at H
              by_cases c116 : x95_29 = true
              ·subst c116
               have H1 : (some false) = some r := by rw [if_pos rfl] at H; exact H
               clear H
               have H := H1
               clear H1; obtain rfl := Option.some.inj H
               go_wp2
               go_ret
               exact ⟨FF, BB HB⟩
              ·replace c116 := Bool.eq_false_iff.mpr c116
               subst c116
               have H1 : ((some (([[], (([0] : List Int)), (([1] : List Int)), (([126] : List Int)), (([127] : List Int)), (([0, 0, 1, 1, 0] : List Int)), (([1, 1, 2, 2, 1] : List Int)), (([2, 2] : List Int)), (([1, 2, 3, 2, 1] : List Int)), (([4, 3, 4, 3] : List Int)), (([0, 2, 1, 3, 0, 4] : List Int)), (([125, 126, 0] : List Int)), (([3, 3, 0, 5, 5] : List Int)), (([2, 4, 6] : List Int))] : List (List Int)) : List (List Int))).bind fun y464 => (selvedgelaw20_OrderKnown.l4 kj29 y464 (y464.length : Int) 0)) = some r := by rw [if_neg (show ¬ (false = true) by decide)] at H; exact H
               clear H
               have H := H1
               clear H1
               obtain ⟨y425, hy425⟩ : ∃ y_ : List Int, y_ = (([0] : List Int)) := ⟨_, rfl⟩
               replace H : ((some (([[], y425, (([1] : List Int)), (([126] : List Int)), (([127] : List Int)), (([0, 0, 1, 1, 0] : List Int)), (([1, 1, 2, 2, 1] : List Int)), (([2, 2] : List Int)), (([1, 2, 3, 2, 1] : List Int)), (([4, 3, 4, 3] : List Int)), (([0, 2, 1, 3, 0, 4] : List Int)), (([125, 126, 0] : List Int)), (([3, 3, 0, 5, 5] : List Int)), (([2, 4, 6] : List Int))] : List (List Int)) : List (List Int))).bind fun y464 => (selvedgelaw20_OrderKnown.l4 kj29 y464 (y464.length : Int) 0)) = some r := by first | (rw [hy425]; with_reducible exact H) | (have H2_ := (Option.bind_some _ _).symm.trans H; rw [hy425]; with_reducible exact H2_) | (have H2_ := (Option.bind_some _ _).symm.trans H; with_reducible exact H2_) | with_reducible exact H | (rw [hy425]; exact H) | exact H
               have Ny425 := Aside0.mk hy425; clear hy425
               obtain ⟨y428, hy428⟩ : ∃ y_ : List Int, y_ = (([1] : List Int)) := ⟨_, rfl⟩
               replace H : ((some (([[], y425, y428, (([126] : List Int)), (([127] : List Int)), (([0, 0, 1, 1, 0] : List Int)), (([1, 1, 2, 2, 1] : List Int)), (([2, 2] : List Int)), (([1, 2, 3, 2, 1] : List Int)), (([4, 3, 4, 3] : List Int)), (([0, 2, 1, 3, 0, 4] : List Int)), (([125, 126, 0] : List Int)), (([3, 3, 0, 5, 5] : List Int)), (([2, 4, 6] : List Int))] : List (List Int)) : List (List Int))).bind fun y464 => (selvedgelaw20_OrderKnown.l4 kj29 y464 (y464.length : Int) 0)) = some r := by first | (rw [hy428]; with_reducible exact H) | (have H2_ := (Option.bind_some _ _).symm.trans H; rw [hy428]; with_reducible exact H2_) | (have H2_ := (Option.bind_some _ _).symm.trans H; with_reducible exact H2_) | with_reducible exact H | (rw [hy428]; exact H) | exact H
               have Ny428 := Aside0.mk hy428; clear hy428
               obtain ⟨y431, hy431⟩ : ∃ y_ : List Int, y_ = (([126] : List Int)) := ⟨_, rfl⟩
               replace H : ((some (([[], y425, y428, y431, (([127] : List Int)), (([0, 0, 1, 1, 0] : List Int)), (([1, 1, 2, 2, 1] : List Int)), (([2, 2] : List Int)), (([1, 2, 3, 2, 1] : List Int)), (([4, 3, 4, 3] : List Int)), (([0, 2, 1, 3, 0, 4] : List Int)), (([125, 126, 0] : List Int)), (([3, 3, 0, 5, 5] : List Int)), (([2, 4, 6] : List Int))] : List (List Int)) : List (List Int))).bind fun y464 => (selvedgelaw20_OrderKnown.l4 kj29 y464 (y464.length : Int) 0)) = some r := by first | (rw [hy431]; with_reducible exact H) | (have H2_ := (Option.bind_some _ _).symm.trans H; rw [hy431]; with_reducible exact H2_) | (have H2_ := (Option.bind_some _ _).symm.trans H; with_reducible exact H2_) | with_reducible exact H | (rw [hy431]; exact H) | exact H
               have Ny431 := Aside0.mk hy431; clear hy431
               obtain ⟨y434, hy434⟩ : ∃ y_ : List Int, y_ = (([127] : List Int)) := ⟨_, rfl⟩
               replace H : ((some (([[], y425, y428, y431, y434, (([0, 0, 1, 1, 0] : List Int)), (([1, 1, 2, 2, 1] : List Int)), (([2, 2] : List Int)), (([1, 2, 3, 2, 1] : List Int)), (([4, 3, 4, 3] : List Int)), (([0, 2, 1, 3, 0, 4] : List Int)), (([125, 126, 0] : List Int)), (([3, 3, 0, 5, 5] : List Int)), (([2, 4, 6] : List Int))] : List (List Int)) : List (List Int))).bind fun y464 => (selvedgelaw20_OrderKnown.l4 kj29 y464 (y464.length : Int) 0)) = some r := by first | (rw [hy434]; with_reducible exact H) | (have H2_ := (Option.bind_some _ _).symm.trans H; rw [hy434]; with_reducible exact H2_) | (have H2_ := (Option.bind_some _ _).symm.trans H; with_reducible exact H2_) | with_reducible exact H | (rw [hy434]; exact H) | exact H
               have Ny434 := Aside0.mk hy434; clear hy434
               obtain ⟨y437, hy437⟩ : ∃ y_ : List Int, y_ = (([0, 0, 1, 1, 0] : List Int)) := ⟨_, rfl⟩
               replace H : ((some (([[], y425, y428, y431, y434, y437, (([1, 1, 2, 2, 1] : List Int)), (([2, 2] : List Int)), (([1, 2, 3, 2, 1] : List Int)), (([4, 3, 4, 3] : List Int)), (([0, 2, 1, 3, 0, 4] : List Int)), (([125, 126, 0] : List Int)), (([3, 3, 0, 5, 5] : List Int)), (([2, 4, 6] : List Int))] : List (List Int)) : List (List Int))).bind fun y464 => (selvedgelaw20_OrderKnown.l4 kj29 y464 (y464.length : Int) 0)) = some r := by first | (rw [hy437]; with_reducible exact H) | (have H2_ := (Option.bind_some _ _).symm.trans H; rw [hy437]; with_reducible exact H2_) | (have H2_ := (Option.bind_some _ _).symm.trans H; with_reducible exact H2_) | with_reducible exact H | (rw [hy437]; exact H) | exact H
               have Ny437 := Aside0.mk hy437; clear hy437
               obtain ⟨y440, hy440⟩ : ∃ y_ : List Int, y_ = (([1, 1, 2, 2, 1] : List Int)) := ⟨_, rfl⟩
               replace H : ((some (([[], y425, y428, y431, y434, y437, y440, (([2, 2] : List Int)), (([1, 2, 3, 2, 1] : List Int)), (([4, 3, 4, 3] : List Int)), (([0, 2, 1, 3, 0, 4] : List Int)), (([125, 126, 0] : List Int)), (([3, 3, 0, 5, 5] : List Int)), (([2, 4, 6] : List Int))] : List (List Int)) : List (List Int))).bind fun y464 => (selvedgelaw20_OrderKnown.l4 kj29 y464 (y464.length : Int) 0)) = some r := by first | (rw [hy440]; with_reducible exact H) | (have H2_ := (Option.bind_some _ _).symm.trans H; rw [hy440]; with_reducible exact H2_) | (have H2_ := (Option.bind_some _ _).symm.trans H; with_reducible exact H2_) | with_reducible exact H | (rw [hy440]; exact H) | exact H
               have Ny440 := Aside0.mk hy440; clear hy440
               obtain ⟨y443, hy443⟩ : ∃ y_ : List Int, y_ = (([2, 2] : List Int)) := ⟨_, rfl⟩
               replace H : ((some (([[], y425, y428, y431, y434, y437, y440, y443, (([1, 2, 3, 2, 1] : List Int)), (([4, 3, 4, 3] : List Int)), (([0, 2, 1, 3, 0, 4] : List Int)), (([125, 126, 0] : List Int)), (([3, 3, 0, 5, 5] : List Int)), (([2, 4, 6] : List Int))] : List (List Int)) : List (List Int))).bind fun y464 => (selvedgelaw20_OrderKnown.l4 kj29 y464 (y464.length : Int) 0)) = some r := by first | (rw [hy443]; with_reducible exact H) | (have H2_ := (Option.bind_some _ _).symm.trans H; rw [hy443]; with_reducible exact H2_) | (have H2_ := (Option.bind_some _ _).symm.trans H; with_reducible exact H2_) | with_reducible exact H | (rw [hy443]; exact H) | exact H
               have Ny443 := Aside0.mk hy443; clear hy443
               obtain ⟨y446, hy446⟩ : ∃ y_ : List Int, y_ = (([1, 2, 3, 2, 1] : List Int)) := ⟨_, rfl⟩
               replace H : ((some (([[], y425, y428, y431, y434, y437, y440, y443, y446, (([4, 3, 4, 3] : List Int)), (([0, 2, 1, 3, 0, 4] : List Int)), (([125, 126, 0] : List Int)), (([3, 3, 0, 5, 5] : List Int)), (([2, 4, 6] : List Int))] : List (List Int)) : List (List Int))).bind fun y464 => (selvedgelaw20_OrderKnown.l4 kj29 y464 (y464.length : Int) 0)) = some r := by first | (rw [hy446]; with_reducible exact H) | (have H2_ := (Option.bind_some _ _).symm.trans H; rw [hy446]; with_reducible exact H2_) | (have H2_ := (Option.bind_some _ _).symm.trans H; with_reducible exact H2_) | with_reducible exact H | (rw [hy446]; exact H) | exact H
               have Ny446 := Aside0.mk hy446; clear hy446
               obtain ⟨y449, hy449⟩ : ∃ y_ : List Int, y_ = (([4, 3, 4, 3] : List Int)) := ⟨_, rfl⟩
               replace H : ((some (([[], y425, y428, y431, y434, y437, y440, y443, y446, y449, (([0, 2, 1, 3, 0, 4] : List Int)), (([125, 126, 0] : List Int)), (([3, 3, 0, 5, 5] : List Int)), (([2, 4, 6] : List Int))] : List (List Int)) : List (List Int))).bind fun y464 => (selvedgelaw20_OrderKnown.l4 kj29 y464 (y464.length : Int) 0)) = some r := by first | (rw [hy449]; with_reducible exact H) | (have H2_ := (Option.bind_some _ _).symm.trans H; rw [hy449]; with_reducible exact H2_) | (have H2_ := (Option.bind_some _ _).symm.trans H; with_reducible exact H2_) | with_reducible exact H | (rw [hy449]; exact H) | exact H
               have Ny449 := Aside0.mk hy449; clear hy449
               obtain ⟨y452, hy452⟩ : ∃ y_ : List Int, y_ = (([0, 2, 1, 3, 0, 4] : List Int)) := ⟨_, rfl⟩
               replace H : ((some (([[], y425, y428, y431, y434, y437, y440, y443, y446, y449, y452, (([125, 126, 0] : List Int)), (([3, 3, 0, 5, 5] : List Int)), (([2, 4, 6] : List Int))] : List (List Int)) : List (List Int))).bind fun y464 => (selvedgelaw20_OrderKnown.l4 kj29 y464 (y464.length : Int) 0)) = some r := by first | (rw [hy452]; with_reducible exact H) | (have H2_ := (Option.bind_some _ _).symm.trans H; rw [hy452]; with_reducible exact H2_) | (have H2_ := (Option.bind_some _ _).symm.trans H; with_reducible exact H2_) | with_reducible exact H | (rw [hy452]; exact H) | exact H
               have Ny452 := Aside0.mk hy452; clear hy452
               obtain ⟨y455, hy455⟩ : ∃ y_ : List Int, y_ = (([125, 126, 0] : List Int)) := ⟨_, rfl⟩
               replace H : ((some (([[], y425, y428, y431, y434, y437, y440, y443, y446, y449, y452, y455, (([3, 3, 0, 5, 5] : List Int)), (([2, 4, 6] : List Int))] : List (List Int)) : List (List Int))).bind fun y464 => (selvedgelaw20_OrderKnown.l4 kj29 y464 (y464.length : Int) 0)) = some r := by first | (rw [hy455]; with_reducible exact H) | (have H2_ := (Option.bind_some _ _).symm.trans H; rw [hy455]; with_reducible exact H2_) | (have H2_ := (Option.bind_some _ _).symm.trans H; with_reducible exact H2_) | with_reducible exact H | (rw [hy455]; exact H) | exact H
               have Ny455 := Aside0.mk hy455; clear hy455
               obtain ⟨y458, hy458⟩ : ∃ y_ : List Int, y_ = (([3, 3, 0, 5, 5] : List Int)) := ⟨_, rfl⟩
               replace H : ((some (([[], y425, y428, y431, y434, y437, y440, y443, y446, y449, y452, y455, y458, (([2, 4, 6] : List Int))] : List (List Int)) : List (List Int))).bind fun y464 => (selvedgelaw20_OrderKnown.l4 kj29 y464 (y464.length : Int) 0)) = some r := by first | (rw [hy458]; with_reducible exact H) | (have H2_ := (Option.bind_some _ _).symm.trans H; rw [hy458]; with_reducible exact H2_) | (have H2_ := (Option.bind_some _ _).symm.trans H; with_reducible exact H2_) | with_reducible exact H | (rw [hy458]; exact H) | exact H
               have Ny458 := Aside0.mk hy458; clear hy458
               obtain ⟨y461, hy461⟩ : ∃ y_ : List Int, y_ = (([2, 4, 6] : List Int)) := ⟨_, rfl⟩
               replace H : ((some (([[], y425, y428, y431, y434, y437, y440, y443, y446, y449, y452, y455, y458, y461] : List (List Int)) : List (List Int))).bind fun y464 => (selvedgelaw20_OrderKnown.l4 kj29 y464 (y464.length : Int) 0)) = some r := by first | (rw [hy461]; with_reducible exact H) | (have H2_ := (Option.bind_some _ _).symm.trans H; rw [hy461]; with_reducible exact H2_) | (have H2_ := (Option.bind_some _ _).symm.trans H; with_reducible exact H2_) | with_reducible exact H | (rw [hy461]; exact H) | exact H
               have Ny461 := Aside0.mk hy461; clear hy461
               obtain ⟨y464, hy464⟩ : ∃ y_ : List (List Int), y_ = (([[], y425, y428, y431, y434, y437, y440, y443, y446, y449, y452, y455, y458, y461] : List (List Int))) := ⟨_, rfl⟩
               replace H : (selvedgelaw20_OrderKnown.l4 kj29 y464 (y464.length : Int) 0) = some r := by first | (rw [hy464]; with_reducible exact H) | (have H2_ := (Option.bind_some _ _).symm.trans H; rw [hy464]; with_reducible exact H2_) | (have H2_ := (Option.bind_some _ _).symm.trans H; with_reducible exact H2_) | with_reducible exact H | (rw [hy464]; exact H) | exact H
               have Ny464 := Aside0.mk hy464; clear hy464
               have H' := Aside0.mk H
               clear H
               go_wp2_with (first | ((with_reducible refine gate_dst (N := 96) rfl ?_); (try (refine gate_guard (by rfl) ?_; dsimp only)); refine Kd.R_lit (Kd.int .u8) _ 5 ?hg (N := 96) ?hd (xs := ([0] : List Int)) (inner := [.int .u8 0]) (ok := fun _ => True) (okp := fun _ => True) ?hr ?hp (fun _ hk => hk) trivial (Below.refl _ _) (Nat.le_refl _) (by simp) ?_; (case hd => rfl); (case hg => rfl); (case hr => first | (go_simp; done) | (go_simp; rfl)); (case hp => exact (Reps.one (show Kd.M (Kd.int .u8) _ _ _ 0 [.int .u8 0] from rfl) (Reps.none _ _))); intro v426 w117 ho118 hb hg_ hnew_; clear hg_ hnew_; (first | rw [← Ny425.out] at ho118 | (simp only [Int.reduceToNat] at ho118; rw [← Ny425.out] at ho118)); have n0_ := Aside0.mk (Kd.R_lower ho118 (below_size (BB HB))); have n1_ := Aside0.mk (below_step (BB HB) hb); clear HB; have HO427 := n0_; have HB := n1_; clear n0_ n1_; clear hb ho118) | ((with_reducible refine gate_dst (N := 97) rfl ?_); (try (refine gate_guard (by rfl) ?_; dsimp only)); refine Kd.R_lit (Kd.int .u8) _ 5 ?hg (N := 97) ?hd (xs := ([1] : List Int)) (inner := [.int .u8 1]) (ok := fun _ => True) (okp := fun _ => True) ?hr ?hp (fun _ hk => hk) trivial (Below.refl _ _) (Nat.le_refl _) (by simp) ?_; (case hd => rfl); (case hg => rfl); (case hr => first | (go_simp; done) | (go_simp; rfl)); (case hp => exact (Reps.one (show Kd.M (Kd.int .u8) _ _ _ 1 [.int .u8 1] from rfl) (Reps.none _ _))); intro v429 w119 ho120 hb hg_ hnew_; clear hg_ hnew_; (first | rw [← Ny428.out] at ho120 | (simp only [Int.reduceToNat] at ho120; rw [← Ny428.out] at ho120)); have n0_ := Aside0.mk (Kd.R_elder' (RR HO427) (Kd.R_base ho120) hb); have n1_ := Aside0.mk (Kd.R_lower (Kd.R_new' ho120 (Kd.R_lt (RR HO427))) (below_size (BB HB))); have n2_ := Aside0.mk (below_step (BB HB) hb); clear HO427; clear HB; have HO427 := n0_; have HO430 := n1_; have HB := n2_; clear n0_ n1_ n2_; clear hb ho120) | ((with_reducible refine gate_dst (N := 98) rfl ?_); (try (refine gate_guard (by rfl) ?_; dsimp only)); refine Kd.R_lit (Kd.int .u8) _ 5 ?hg (N := 98) ?hd (xs := ([126] : List Int)) (inner := [.int .u8 126]) (ok := fun _ => True) (okp := fun _ => True) ?hr ?hp (fun _ hk => hk) trivial (Below.refl _ _) (Nat.le_refl _) (by simp) ?_; (case hd => rfl); (case hg => rfl); (case hr => first | (go_simp; done) | (go_simp; rfl)); (case hp => exact (Reps.one (show Kd.M (Kd.int .u8) _ _ _ 126 [.int .u8 126] from rfl) (Reps.none _ _))); intro v432 w121 ho122 hb hg_ hnew_; clear hg_ hnew_; (first | rw [← Ny431.out] at ho122 | (simp only [Int.reduceToNat] at ho122; rw [← Ny431.out] at ho122)); have n0_ := Aside0.mk (Kd.R_elder' (RR HO427) (Kd.R_base ho122) hb); have n1_ := Aside0.mk (Kd.R_elder' (RR HO430) (Kd.R_base ho122) hb); have n2_ := Aside0.mk (Kd.R_lower (Kd.R_new' (Kd.R_new' ho122 (Kd.R_lt (RR HO427))) (Kd.R_lt (RR HO430))) (below_size (BB HB))); have n3_ := Aside0.mk (below_step (BB HB) hb); clear HO427; clear HO430; clear HB; have HO427 := n0_; have HO430 := n1_; have HO433 := n2_; have HB := n3_; clear n0_ n1_ n2_ n3_; clear hb ho122) | ((with_reducible refine gate_dst (N := 99) rfl ?_); (try (refine gate_guard (by rfl) ?_; dsimp only)); refine Kd.R_lit (Kd.int .u8) _ 5 ?hg (N := 99) ?hd (xs := ([127] : List Int)) (inner := [.int .u8 127]) (ok := fun _ => True) (okp := fun _ => True) ?hr ?hp (fun _ hk => hk) trivial (Below.refl _ _) (Nat.le_refl _) (by simp) ?_; (case hd => rfl); (case hg => rfl); (case hr => first | (go_simp; done) | (go_simp; rfl)); (case hp => exact (Reps.one (show Kd.M (Kd.int .u8) _ _ _ 127 [.int .u8 127] from rfl) (Reps.none _ _))); intro v435 w123 ho124 hb hg_ hnew_; clear hg_ hnew_; (first | rw [← Ny434.out] at ho124 | (simp only [Int.reduceToNat] at ho124; rw [← Ny434.out] at ho124)); have n0_ := Aside0.mk (Kd.R_elder' (RR HO427) (Kd.R_base ho124) hb); have n1_ := Aside0.mk (Kd.R_elder' (RR HO430) (Kd.R_base ho124) hb); have n2_ := Aside0.mk (Kd.R_elder' (RR HO433) (Kd.R_base ho124) hb); have n3_ := Aside0.mk (Kd.R_lower (Kd.R_new' (Kd.R_new' (Kd.R_new' ho124 (Kd.R_lt (RR HO427))) (Kd.R_lt (RR HO430))) (Kd.R_lt (RR HO433))) (below_size (BB HB))); have n4_ := Aside0.mk (below_step (BB HB) hb); clear HO427; clear HO430; clear HO433; clear HB; have HO427 := n0_; have HO430 := n1_; have HO433 := n2_; have HO436 := n3_; have HB := n4_; clear n0_ n1_ n2_ n3_ n4_; clear hb ho124) | ((with_reducible refine gate_dst (N := 100) rfl ?_); (try (refine gate_guard (by rfl) ?_; dsimp only)); refine Kd.R_lit (Kd.int .u8) _ 5 ?hg (N := 100) ?hd (xs := ([0, 0, 1, 1, 0] : List Int)) (inner := [.int .u8 0, .int .u8 0, .int .u8 1, .int .u8 1, .int .u8 0]) (ok := fun _ => True) (okp := fun _ => True) ?hr ?hp (fun _ hk => hk) trivial (Below.refl _ _) (Nat.le_refl _) (by simp) ?_; (case hd => rfl); (case hg => rfl); (case hr => first | (go_simp; done) | (go_simp; rfl)); (case hp => exact (Reps.one (show Kd.M (Kd.int .u8) _ _ _ 0 [.int .u8 0] from rfl) (Reps.one (show Kd.M (Kd.int .u8) _ _ _ 0 [.int .u8 0] from rfl) (Reps.one (show Kd.M (Kd.int .u8) _ _ _ 1 [.int .u8 1] from rfl) (Reps.one (show Kd.M (Kd.int .u8) _ _ _ 1 [.int .u8 1] from rfl) (Reps.one (show Kd.M (Kd.int .u8) _ _ _ 0 [.int .u8 0] from rfl) (Reps.none _ _))))))); intro v438 w125 ho126 hb hg_ hnew_; clear hg_ hnew_; (first | rw [← Ny437.out] at ho126 | (simp only [Int.reduceToNat] at ho126; rw [← Ny437.out] at ho126)); have n0_ := Aside0.mk (Kd.R_elder' (RR HO427) (Kd.R_base ho126) hb); have n1_ := Aside0.mk (Kd.R_elder' (RR HO430) (Kd.R_base ho126) hb); have n2_ := Aside0.mk (Kd.R_elder' (RR HO433) (Kd.R_base ho126) hb); have n3_ := Aside0.mk (Kd.R_elder' (RR HO436) (Kd.R_base ho126) hb); have n4_ := Aside0.mk (Kd.R_lower (Kd.R_new' (Kd.R_new' (Kd.R_new' (Kd.R_new' ho126 (Kd.R_lt (RR HO427))) (Kd.R_lt (RR HO430))) (Kd.R_lt (RR HO433))) (Kd.R_lt (RR HO436))) (below_size (BB HB))); have n5_ := Aside0.mk (below_step (BB HB) hb); clear HO427; clear HO430; clear HO433; clear HO436; clear HB; have HO427 := n0_; have HO430 := n1_; have HO433 := n2_; have HO436 := n3_; have HO439 := n4_; have HB := n5_; clear n0_ n1_ n2_ n3_ n4_ n5_; clear hb ho126) | ((with_reducible refine gate_dst (N := 101) rfl ?_); (try (refine gate_guard (by rfl) ?_; dsimp only)); refine Kd.R_lit (Kd.int .u8) _ 5 ?hg (N := 101) ?hd (xs := ([1, 1, 2, 2, 1] : List Int)) (inner := [.int .u8 1, .int .u8 1, .int .u8 2, .int .u8 2, .int .u8 1]) (ok := fun _ => True) (okp := fun _ => True) ?hr ?hp (fun _ hk => hk) trivial (Below.refl _ _) (Nat.le_refl _) (by simp) ?_; (case hd => rfl); (case hg => rfl); (case hr => first | (go_simp; done) | (go_simp; rfl)); (case hp => exact (Reps.one (show Kd.M (Kd.int .u8) _ _ _ 1 [.int .u8 1] from rfl) (Reps.one (show Kd.M (Kd.int .u8) _ _ _ 1 [.int .u8 1] from rfl) (Reps.one (show Kd.M (Kd.int .u8) _ _ _ 2 [.int .u8 2] from rfl) (Reps.one (show Kd.M (Kd.int .u8) _ _ _ 2 [.int .u8 2] from rfl) (Reps.one (show Kd.M (Kd.int .u8) _ _ _ 1 [.int .u8 1] from rfl) (Reps.none _ _))))))); intro v441 w127 ho128 hb hg_ hnew_; clear hg_ hnew_; (first | rw [← Ny440.out] at ho128 | (simp only [Int.reduceToNat] at ho128; rw [← Ny440.out] at ho128)); have n0_ := Aside0.mk (Kd.R_elder' (RR HO427) (Kd.R_base ho128) hb); have n1_ := Aside0.mk (Kd.R_elder' (RR HO430) (Kd.R_base ho128) hb); have n2_ := Aside0.mk (Kd.R_elder' (RR HO433) (Kd.R_base ho128) hb); have n3_ := Aside0.mk (Kd.R_elder' (RR HO436) (Kd.R_base ho128) hb); have n4_ := Aside0.mk (Kd.R_elder' (RR HO439) (Kd.R_base ho128) hb); have n5_ := Aside0.mk (Kd.R_lower (Kd.R_new' (Kd.R_new' (Kd.R_new' (Kd.R_new' (Kd.R_new' ho128 (Kd.R_lt (RR HO427))) (Kd.R_lt (RR HO430))) (Kd.R_lt (RR HO433))) (Kd.R_lt (RR HO436))) (Kd.R_lt (RR HO439))) (below_size (BB HB))); have n6_ := Aside0.mk (below_step (BB HB) hb); clear HO427; clear HO430; clear HO433; clear HO436; clear HO439; clear HB; have HO427 := n0_; have HO430 := n1_; have HO433 := n2_; have HO436 := n3_; have HO439 := n4_; have HO442 := n5_; have HB := n6_; clear n0_ n1_ n2_ n3_ n4_ n5_ n6_; clear hb ho128) | ((with_reducible refine gate_dst (N := 102) rfl ?_); (try (refine gate_guard (by rfl) ?_; dsimp only)); refine Kd.R_lit (Kd.int .u8) _ 5 ?hg (N := 102) ?hd (xs := ([2, 2] : List Int)) (inner := [.int .u8 2, .int .u8 2]) (ok := fun _ => True) (okp := fun _ => True) ?hr ?hp (fun _ hk => hk) trivial (Below.refl _ _) (Nat.le_refl _) (by simp) ?_; (case hd => rfl); (case hg => rfl); (case hr => first | (go_simp; done) | (go_simp; rfl)); (case hp => exact (Reps.one (show Kd.M (Kd.int .u8) _ _ _ 2 [.int .u8 2] from rfl) (Reps.one (show Kd.M (Kd.int .u8) _ _ _ 2 [.int .u8 2] from rfl) (Reps.none _ _)))); intro v444 w129 ho130 hb hg_ hnew_; clear hg_ hnew_; (first | rw [← Ny443.out] at ho130 | (simp only [Int.reduceToNat] at ho130; rw [← Ny443.out] at ho130)); have n0_ := Aside0.mk (Kd.R_elder' (RR HO427) (Kd.R_base ho130) hb); have n1_ := Aside0.mk (Kd.R_elder' (RR HO430) (Kd.R_base ho130) hb); have n2_ := Aside0.mk (Kd.R_elder' (RR HO433) (Kd.R_base ho130) hb); have n3_ := Aside0.mk (Kd.R_elder' (RR HO436) (Kd.R_base ho130) hb); have n4_ := Aside0.mk (Kd.R_elder' (RR HO439) (Kd.R_base ho130) hb); have n5_ := Aside0.mk (Kd.R_elder' (RR HO442) (Kd.R_base ho130) hb); have n6_ := Aside0.mk (Kd.R_lower (Kd.R_new' (Kd.R_new' (Kd.R_new' (Kd.R_new' (Kd.R_new' (Kd.R_new' ho130 (Kd.R_lt (RR HO427))) (Kd.R_lt (RR HO430))) (Kd.R_lt (RR HO433))) (Kd.R_lt (RR HO436))) (Kd.R_lt (RR HO439))) (Kd.R_lt (RR HO442))) (below_size (BB HB))); have n7_ := Aside0.mk (below_step (BB HB) hb); clear HO427; clear HO430; clear HO433; clear HO436; clear HO439; clear HO442; clear HB; have HO427 := n0_; have HO430 := n1_; have HO433 := n2_; have HO436 := n3_; have HO439 := n4_; have HO442 := n5_; have HO445 := n6_; have HB := n7_; clear n0_ n1_ n2_ n3_ n4_ n5_ n6_ n7_; clear hb ho130) | ((with_reducible refine gate_dst (N := 103) rfl ?_); (try (refine gate_guard (by rfl) ?_; dsimp only)); refine Kd.R_lit (Kd.int .u8) _ 5 ?hg (N := 103) ?hd (xs := ([1, 2, 3, 2, 1] : List Int)) (inner := [.int .u8 1, .int .u8 2, .int .u8 3, .int .u8 2, .int .u8 1]) (ok := fun _ => True) (okp := fun _ => True) ?hr ?hp (fun _ hk => hk) trivial (Below.refl _ _) (Nat.le_refl _) (by simp) ?_; (case hd => rfl); (case hg => rfl); (case hr => first | (go_simp; done) | (go_simp; rfl)); (case hp => exact (Reps.one (show Kd.M (Kd.int .u8) _ _ _ 1 [.int .u8 1] from rfl) (Reps.one (show Kd.M (Kd.int .u8) _ _ _ 2 [.int .u8 2] from rfl) (Reps.one (show Kd.M (Kd.int .u8) _ _ _ 3 [.int .u8 3] from rfl) (Reps.one (show Kd.M (Kd.int .u8) _ _ _ 2 [.int .u8 2] from rfl) (Reps.one (show Kd.M (Kd.int .u8) _ _ _ 1 [.int .u8 1] from rfl) (Reps.none _ _))))))); intro v447 w131 ho132 hb hg_ hnew_; clear hg_ hnew_; (first | rw [← Ny446.out] at ho132 | (simp only [Int.reduceToNat] at ho132; rw [← Ny446.out] at ho132)); have n0_ := Aside0.mk (Kd.R_elder' (RR HO427) (Kd.R_base ho132) hb); have n1_ := Aside0.mk (Kd.R_elder' (RR HO430) (Kd.R_base ho132) hb); have n2_ := Aside0.mk (Kd.R_elder' (RR HO433) (Kd.R_base ho132) hb); have n3_ := Aside0.mk (Kd.R_elder' (RR HO436) (Kd.R_base ho132) hb); have n4_ := Aside0.mk (Kd.R_elder' (RR HO439) (Kd.R_base ho132) hb); have n5_ := Aside0.mk (Kd.R_elder' (RR HO442) (Kd.R_base ho132) hb); have n6_ := Aside0.mk (Kd.R_elder' (RR HO445) (Kd.R_base ho132) hb); have n7_ := Aside0.mk (Kd.R_lower (Kd.R_new' (Kd.R_new' (Kd.R_new' (Kd.R_new' (Kd.R_new' (Kd.R_new' (Kd.R_new' ho132 (Kd.R_lt (RR HO427))) (Kd.R_lt (RR HO430))) (Kd.R_lt (RR HO433))) (Kd.R_lt (RR HO436))) (Kd.R_lt (RR HO439))) (Kd.R_lt (RR HO442))) (Kd.R_lt (RR HO445))) (below_size (BB HB))); have n8_ := Aside0.mk (below_step (BB HB) hb); clear HO427; clear HO430; clear HO433; clear HO436; clear HO439; clear HO442; clear HO445; clear HB; have HO427 := n0_; have HO430 := n1_; have HO433 := n2_; have HO436 := n3_; have HO439 := n4_; have HO442 := n5_; have HO445 := n6_; have HO448 := n7_; have HB := n8_; clear n0_ n1_ n2_ n3_ n4_ n5_ n6_ n7_ n8_; clear hb ho132) | ((with_reducible refine gate_dst (N := 104) rfl ?_); (try (refine gate_guard (by rfl) ?_; dsimp only)); refine Kd.R_lit (Kd.int .u8) _ 5 ?hg (N := 104) ?hd (xs := ([4, 3, 4, 3] : List Int)) (inner := [.int .u8 4, .int .u8 3, .int .u8 4, .int .u8 3]) (ok := fun _ => True) (okp := fun _ => True) ?hr ?hp (fun _ hk => hk) trivial (Below.refl _ _) (Nat.le_refl _) (by simp) ?_; (case hd => rfl); (case hg => rfl); (case hr => first | (go_simp; done) | (go_simp; rfl)); (case hp => exact (Reps.one (show Kd.M (Kd.int .u8) _ _ _ 4 [.int .u8 4] from rfl) (Reps.one (show Kd.M (Kd.int .u8) _ _ _ 3 [.int .u8 3] from rfl) (Reps.one (show Kd.M (Kd.int .u8) _ _ _ 4 [.int .u8 4] from rfl) (Reps.one (show Kd.M (Kd.int .u8) _ _ _ 3 [.int .u8 3] from rfl) (Reps.none _ _)))))); intro v450 w133 ho134 hb hg_ hnew_; clear hg_ hnew_; (first | rw [← Ny449.out] at ho134 | (simp only [Int.reduceToNat] at ho134; rw [← Ny449.out] at ho134)); have n0_ := Aside0.mk (Kd.R_elder' (RR HO427) (Kd.R_base ho134) hb); have n1_ := Aside0.mk (Kd.R_elder' (RR HO430) (Kd.R_base ho134) hb); have n2_ := Aside0.mk (Kd.R_elder' (RR HO433) (Kd.R_base ho134) hb); have n3_ := Aside0.mk (Kd.R_elder' (RR HO436) (Kd.R_base ho134) hb); have n4_ := Aside0.mk (Kd.R_elder' (RR HO439) (Kd.R_base ho134) hb); have n5_ := Aside0.mk (Kd.R_elder' (RR HO442) (Kd.R_base ho134) hb); have n6_ := Aside0.mk (Kd.R_elder' (RR HO445) (Kd.R_base ho134) hb); have n7_ := Aside0.mk (Kd.R_elder' (RR HO448) (Kd.R_base ho134) hb); have n8_ := Aside0.mk (Kd.R_lower (Kd.R_new' (Kd.R_new' (Kd.R_new' (Kd.R_new' (Kd.R_new' (Kd.R_new' (Kd.R_new' (Kd.R_new' ho134 (Kd.R_lt (RR HO427))) (Kd.R_lt (RR HO430))) (Kd.R_lt (RR HO433))) (Kd.R_lt (RR HO436))) (Kd.R_lt (RR HO439))) (Kd.R_lt (RR HO442))) (Kd.R_lt (RR HO445))) (Kd.R_lt (RR HO448))) (below_size (BB HB))); have n9_ := Aside0.mk (below_step (BB HB) hb); clear HO427; clear HO430; clear HO433; clear HO436; clear HO439; clear HO442; clear HO445; clear HO448; clear HB; have HO427 := n0_; have HO430 := n1_; have HO433 := n2_; have HO436 := n3_; have HO439 := n4_; have HO442 := n5_; have HO445 := n6_; have HO448 := n7_; have HO451 := n8_; have HB := n9_; clear n0_ n1_ n2_ n3_ n4_ n5_ n6_ n7_ n8_ n9_; clear hb ho134) | ((with_reducible refine gate_dst (N := 105) rfl ?_); (try (refine gate_guard (by rfl) ?_; dsimp only)); refine Kd.R_lit (Kd.int .u8) _ 5 ?hg (N := 105) ?hd (xs := ([0, 2, 1, 3, 0, 4] : List Int)) (inner := [.int .u8 0, .int .u8 2, .int .u8 1, .int .u8 3, .int .u8 0, .int .u8 4]) (ok := fun _ => True) (okp := fun _ => True) ?hr ?hp (fun _ hk => hk) trivial (Below.refl _ _) (Nat.le_refl _) (by simp) ?_; (case hd => rfl); (case hg => rfl); (case hr => first | (go_simp; done) | (go_simp; rfl)); (case hp => exact (Reps.one (show Kd.M (Kd.int .u8) _ _ _ 0 [.int .u8 0] from rfl) (Reps.one (show Kd.M (Kd.int .u8) _ _ _ 2 [.int .u8 2] from rfl) (Reps.one (show Kd.M (Kd.int .u8) _ _ _ 1 [.int .u8 1] from rfl) (Reps.one (show Kd.M (Kd.int .u8) _ _ _ 3 [.int .u8 3] from rfl) (Reps.one (show Kd.M (Kd.int .u8) _ _ _ 0 [.int .u8 0] from rfl) (Reps.one (show Kd.M (Kd.int .u8) _ _ _ 4 [.int .u8 4] from rfl) (Reps.none _ _)))))))); intro v453 w135 ho136 hb hg_ hnew_; clear hg_ hnew_; (first | rw [← Ny452.out] at ho136 | (simp only [Int.reduceToNat] at ho136; rw [← Ny452.out] at ho136)); have n0_ := Aside0.mk (Kd.R_elder' (RR HO427) (Kd.R_base ho136) hb); have n1_ := Aside0.mk (Kd.R_elder' (RR HO430) (Kd.R_base ho136) hb); have n2_ := Aside0.mk (Kd.R_elder' (RR HO433) (Kd.R_base ho136) hb); have n3_ := Aside0.mk (Kd.R_elder' (RR HO436) (Kd.R_base ho136) hb); have n4_ := Aside0.mk (Kd.R_elder' (RR HO439) (Kd.R_base ho136) hb); have n5_ := Aside0.mk (Kd.R_elder' (RR HO442) (Kd.R_base ho136) hb); have n6_ := Aside0.mk (Kd.R_elder' (RR HO445) (Kd.R_base ho136) hb); have n7_ := Aside0.mk (Kd.R_elder' (RR HO448) (Kd.R_base ho136) hb); have n8_ := Aside0.mk (Kd.R_elder' (RR HO451) (Kd.R_base ho136) hb); have n9_ := Aside0.mk (Kd.R_lower (Kd.R_new' (Kd.R_new' (Kd.R_new' (Kd.R_new' (Kd.R_new' (Kd.R_new' (Kd.R_new' (Kd.R_new' (Kd.R_new' ho136 (Kd.R_lt (RR HO427))) (Kd.R_lt (RR HO430))) (Kd.R_lt (RR HO433))) (Kd.R_lt (RR HO436))) (Kd.R_lt (RR HO439))) (Kd.R_lt (RR HO442))) (Kd.R_lt (RR HO445))) (Kd.R_lt (RR HO448))) (Kd.R_lt (RR HO451))) (below_size (BB HB))); have n10_ := Aside0.mk (below_step (BB HB) hb); clear HO427; clear HO430; clear HO433; clear HO436; clear HO439; clear HO442; clear HO445; clear HO448; clear HO451; clear HB; have HO427 := n0_; have HO430 := n1_; have HO433 := n2_; have HO436 := n3_; have HO439 := n4_; have HO442 := n5_; have HO445 := n6_; have HO448 := n7_; have HO451 := n8_; have HO454 := n9_; have HB := n10_; clear n0_ n1_ n2_ n3_ n4_ n5_ n6_ n7_ n8_ n9_ n10_; clear hb ho136) | ((with_reducible refine gate_dst (N := 106) rfl ?_); (try (refine gate_guard (by rfl) ?_; dsimp only)); refine Kd.R_lit (Kd.int .u8) _ 5 ?hg (N := 106) ?hd (xs := ([125, 126, 0] : List Int)) (inner := [.int .u8 125, .int .u8 126, .int .u8 0]) (ok := fun _ => True) (okp := fun _ => True) ?hr ?hp (fun _ hk => hk) trivial (Below.refl _ _) (Nat.le_refl _) (by simp) ?_; (case hd => rfl); (case hg => rfl); (case hr => first | (go_simp; done) | (go_simp; rfl)); (case hp => exact (Reps.one (show Kd.M (Kd.int .u8) _ _ _ 125 [.int .u8 125] from rfl) (Reps.one (show Kd.M (Kd.int .u8) _ _ _ 126 [.int .u8 126] from rfl) (Reps.one (show Kd.M (Kd.int .u8) _ _ _ 0 [.int .u8 0] from rfl) (Reps.none _ _))))); intro v456 w137 ho138 hb hg_ hnew_; clear hg_ hnew_; (first | rw [← Ny455.out] at ho138 | (simp only [Int.reduceToNat] at ho138; rw [← Ny455.out] at ho138)); have n0_ := Aside0.mk (Kd.R_elder' (RR HO427) (Kd.R_base ho138) hb); have n1_ := Aside0.mk (Kd.R_elder' (RR HO430) (Kd.R_base ho138) hb); have n2_ := Aside0.mk (Kd.R_elder' (RR HO433) (Kd.R_base ho138) hb); have n3_ := Aside0.mk (Kd.R_elder' (RR HO436) (Kd.R_base ho138) hb); have n4_ := Aside0.mk (Kd.R_elder' (RR HO439) (Kd.R_base ho138) hb); have n5_ := Aside0.mk (Kd.R_elder' (RR HO442) (Kd.R_base ho138) hb); have n6_ := Aside0.mk (Kd.R_elder' (RR HO445) (Kd.R_base ho138) hb); have n7_ := Aside0.mk (Kd.R_elder' (RR HO448) (Kd.R_base ho138) hb); have n8_ := Aside0.mk (Kd.R_elder' (RR HO451) (Kd.R_base ho138) hb); have n9_ := Aside0.mk (Kd.R_elder' (RR HO454) (Kd.R_base ho138) hb); have n10_ := Aside0.mk (Kd.R_lower (Kd.R_new' (Kd.R_new' (Kd.R_new' (Kd.R_new' (Kd.R_new' (Kd.R_new' (Kd.R_new' (Kd.R_new' (Kd.R_new' (Kd.R_new' ho138 (Kd.R_lt (RR HO427))) (Kd.R_lt (RR HO430))) (Kd.R_lt (RR HO433))) (Kd.R_lt (RR HO436))) (Kd.R_lt (RR HO439))) (Kd.R_lt (RR HO442))) (Kd.R_lt (RR HO445))) (Kd.R_lt (RR HO448))) (Kd.R_lt (RR HO451))) (Kd.R_lt (RR HO454))) (below_size (BB HB))); have n11_ := Aside0.mk (below_step (BB HB) hb); clear HO427; clear HO430; clear HO433; clear HO436; clear HO439; clear HO442; clear HO445; clear HO448; clear HO451; clear HO454; clear HB; have HO427 := n0_; have HO430 := n1_; have HO433 := n2_; have HO436 := n3_; have HO439 := n4_; have HO442 := n5_; have HO445 := n6_; have HO448 := n7_; have HO451 := n8_; have HO454 := n9_; have HO457 := n10_; have HB := n11_; clear n0_ n1_ n2_ n3_ n4_ n5_ n6_ n7_ n8_ n9_ n10_ n11_; clear hb ho138) | ((with_reducible refine gate_dst (N := 107) rfl ?_); (try (refine gate_guard (by rfl) ?_; dsimp only)); refine Kd.R_lit (Kd.int .u8) _ 5 ?hg (N := 107) ?hd (xs := ([3, 3, 0, 5, 5] : List Int)) (inner := [.int .u8 3, .int .u8 3, .int .u8 0, .int .u8 5, .int .u8 5]) (ok := fun _ => True) (okp := fun _ => True) ?hr ?hp (fun _ hk => hk) trivial (Below.refl _ _) (Nat.le_refl _) (by simp) ?_; (case hd => rfl); (case hg => rfl); (case hr => first | (go_simp; done) | (go_simp; rfl)); (case hp => exact (Reps.one (show Kd.M (Kd.int .u8) _ _ _ 3 [.int .u8 3] from rfl) (Reps.one (show Kd.M (Kd.int .u8) _ _ _ 3 [.int .u8 3] from rfl) (Reps.one (show Kd.M (Kd.int .u8) _ _ _ 0 [.int .u8 0] from rfl) (Reps.one (show Kd.M (Kd.int .u8) _ _ _ 5 [.int .u8 5] from rfl) (Reps.one (show Kd.M (Kd.int .u8) _ _ _ 5 [.int .u8 5] from rfl) (Reps.none _ _))))))); intro v459 w139 ho140 hb hg_ hnew_; clear hg_ hnew_; (first | rw [← Ny458.out] at ho140 | (simp only [Int.reduceToNat] at ho140; rw [← Ny458.out] at ho140)); have n0_ := Aside0.mk (Kd.R_elder' (RR HO427) (Kd.R_base ho140) hb); have n1_ := Aside0.mk (Kd.R_elder' (RR HO430) (Kd.R_base ho140) hb); have n2_ := Aside0.mk (Kd.R_elder' (RR HO433) (Kd.R_base ho140) hb); have n3_ := Aside0.mk (Kd.R_elder' (RR HO436) (Kd.R_base ho140) hb); have n4_ := Aside0.mk (Kd.R_elder' (RR HO439) (Kd.R_base ho140) hb); have n5_ := Aside0.mk (Kd.R_elder' (RR HO442) (Kd.R_base ho140) hb); have n6_ := Aside0.mk (Kd.R_elder' (RR HO445) (Kd.R_base ho140) hb); have n7_ := Aside0.mk (Kd.R_elder' (RR HO448) (Kd.R_base ho140) hb); have n8_ := Aside0.mk (Kd.R_elder' (RR HO451) (Kd.R_base ho140) hb); have n9_ := Aside0.mk (Kd.R_elder' (RR HO454) (Kd.R_base ho140) hb); have n10_ := Aside0.mk (Kd.R_elder' (RR HO457) (Kd.R_base ho140) hb); have n11_ := Aside0.mk (Kd.R_lower (Kd.R_new' (Kd.R_new' (Kd.R_new' (Kd.R_new' (Kd.R_new' (Kd.R_new' (Kd.R_new' (Kd.R_new' (Kd.R_new' (Kd.R_new' (Kd.R_new' ho140 (Kd.R_lt (RR HO427))) (Kd.R_lt (RR HO430))) (Kd.R_lt (RR HO433))) (Kd.R_lt (RR HO436))) (Kd.R_lt (RR HO439))) (Kd.R_lt (RR HO442))) (Kd.R_lt (RR HO445))) (Kd.R_lt (RR HO448))) (Kd.R_lt (RR HO451))) (Kd.R_lt (RR HO454))) (Kd.R_lt (RR HO457))) (below_size (BB HB))); have n12_ := Aside0.mk (below_step (BB HB) hb); clear HO427; clear HO430; clear HO433; clear HO436; clear HO439; clear HO442; clear HO445; clear HO448; clear HO451; clear HO454; clear HO457; clear HB; have HO427 := n0_; have HO430 := n1_; have HO433 := n2_; have HO436 := n3_; have HO439 := n4_; have HO442 := n5_; have HO445 := n6_; have HO448 := n7_; have HO451 := n8_; have HO454 := n9_; have HO457 := n10_; have HO460 := n11_; have HB := n12_; clear n0_ n1_ n2_ n3_ n4_ n5_ n6_ n7_ n8_ n9_ n10_ n11_ n12_; clear hb ho140) | ((with_reducible refine gate_dst (N := 108) rfl ?_); (try (refine gate_guard (by rfl) ?_; dsimp only)); refine Kd.R_lit (Kd.int .u8) _ 5 ?hg (N := 108) ?hd (xs := ([2, 4, 6] : List Int)) (inner := [.int .u8 2, .int .u8 4, .int .u8 6]) (ok := fun _ => True) (okp := fun _ => True) ?hr ?hp (fun _ hk => hk) trivial (Below.refl _ _) (Nat.le_refl _) (by simp) ?_; (case hd => rfl); (case hg => rfl); (case hr => first | (go_simp; done) | (go_simp; rfl)); (case hp => exact (Reps.one (show Kd.M (Kd.int .u8) _ _ _ 2 [.int .u8 2] from rfl) (Reps.one (show Kd.M (Kd.int .u8) _ _ _ 4 [.int .u8 4] from rfl) (Reps.one (show Kd.M (Kd.int .u8) _ _ _ 6 [.int .u8 6] from rfl) (Reps.none _ _))))); intro v462 w141 ho142 hb hg_ hnew_; clear hg_ hnew_; (first | rw [← Ny461.out] at ho142 | (simp only [Int.reduceToNat] at ho142; rw [← Ny461.out] at ho142)); have n0_ := Aside0.mk (Kd.R_elder' (RR HO427) (Kd.R_base ho142) hb); have n1_ := Aside0.mk (Kd.R_elder' (RR HO430) (Kd.R_base ho142) hb); have n2_ := Aside0.mk (Kd.R_elder' (RR HO433) (Kd.R_base ho142) hb); have n3_ := Aside0.mk (Kd.R_elder' (RR HO436) (Kd.R_base ho142) hb); have n4_ := Aside0.mk (Kd.R_elder' (RR HO439) (Kd.R_base ho142) hb); have n5_ := Aside0.mk (Kd.R_elder' (RR HO442) (Kd.R_base ho142) hb); have n6_ := Aside0.mk (Kd.R_elder' (RR HO445) (Kd.R_base ho142) hb); have n7_ := Aside0.mk (Kd.R_elder' (RR HO448) (Kd.R_base ho142) hb); have n8_ := Aside0.mk (Kd.R_elder' (RR HO451) (Kd.R_base ho142) hb); have n9_ := Aside0.mk (Kd.R_elder' (RR HO454) (Kd.R_base ho142) hb); have n10_ := Aside0.mk (Kd.R_elder' (RR HO457) (Kd.R_base ho142) hb); have n11_ := Aside0.mk (Kd.R_elder' (RR HO460) (Kd.R_base ho142) hb); have n12_ := Aside0.mk (Kd.R_lower (Kd.R_new' (Kd.R_new' (Kd.R_new' (Kd.R_new' (Kd.R_new' (Kd.R_new' (Kd.R_new' (Kd.R_new' (Kd.R_new' (Kd.R_new' (Kd.R_new' (Kd.R_new' ho142 (Kd.R_lt (RR HO427))) (Kd.R_lt (RR HO430))) (Kd.R_lt (RR HO433))) (Kd.R_lt (RR HO436))) (Kd.R_lt (RR HO439))) (Kd.R_lt (RR HO442))) (Kd.R_lt (RR HO445))) (Kd.R_lt (RR HO448))) (Kd.R_lt (RR HO451))) (Kd.R_lt (RR HO454))) (Kd.R_lt (RR HO457))) (Kd.R_lt (RR HO460))) (below_size (BB HB))); have n13_ := Aside0.mk (below_step (BB HB) hb); clear HO427; clear HO430; clear HO433; clear HO436; clear HO439; clear HO442; clear HO445; clear HO448; clear HO451; clear HO454; clear HO457; clear HO460; clear HB; have HO427 := n0_; have HO430 := n1_; have HO433 := n2_; have HO436 := n3_; have HO439 := n4_; have HO442 := n5_; have HO445 := n6_; have HO448 := n7_; have HO451 := n8_; have HO454 := n9_; have HO457 := n10_; have HO460 := n11_; have HO463 := n12_; have HB := n13_; clear n0_ n1_ n2_ n3_ n4_ n5_ n6_ n7_ n8_ n9_ n10_ n11_ n12_ n13_; clear hb ho142; obtain ⟨Ao143, co143, eo143⟩ := Kd.R_slice HO427.out; subst eo143; obtain ⟨Ao144, co144, eo144⟩ := Kd.R_slice HO430.out; subst eo144; obtain ⟨Ao145, co145, eo145⟩ := Kd.R_slice HO433.out; subst eo145; obtain ⟨Ao146, co146, eo146⟩ := Kd.R_slice HO436.out; subst eo146; obtain ⟨Ao147, co147, eo147⟩ := Kd.R_slice HO439.out; subst eo147; obtain ⟨Ao148, co148, eo148⟩ := Kd.R_slice HO442.out; subst eo148; obtain ⟨Ao149, co149, eo149⟩ := Kd.R_slice HO445.out; subst eo149; obtain ⟨Ao150, co150, eo150⟩ := Kd.R_slice HO448.out; subst eo150; obtain ⟨Ao151, co151, eo151⟩ := Kd.R_slice HO451.out; subst eo151; obtain ⟨Ao152, co152, eo152⟩ := Kd.R_slice HO454.out; subst eo152; obtain ⟨Ao153, co153, eo153⟩ := Kd.R_slice HO457.out; subst eo153; obtain ⟨Ao154, co154, eo154⟩ := Kd.R_slice HO460.out; subst eo154; obtain ⟨Ao155, co155, eo155⟩ := Kd.R_slice HO463.out; subst eo155) | ((with_reducible refine gate_dst (N := 109) rfl ?_); (try (refine gate_guard (by rfl) ?_; dsimp only)); refine Kd.N_lit (Kd.slice 5 (Kd.int .u8)) _ 23 ?hg (N' := 109) ?hd (xs := ([[], y425, y428, y431, y434, y437, y440, y443, y446, y449, y452, y455, y458, y461] : List (List Int))) (inner := [.slice none 0 0, .slice Ao143 y425.length co143, .slice Ao144 y428.length co144, .slice Ao145 y431.length co145, .slice Ao146 y434.length co146, .slice Ao147 y437.length co147, .slice Ao148 y440.length co148, .slice Ao149 y443.length co149, .slice Ao150 y446.length co150, .slice Ao151 y449.length co151, .slice Ao152 y452.length co152, .slice Ao153 y455.length co153, .slice Ao154 y458.length co154, .slice Ao155 y461.length co155]) (ok := (fun _ => True)) (okp := (fun _ => True)) ?hr ?hp (fun _ hk => hk) ((show ∀ k_, w141.heap.size ≤ k_ → (fun _ => True) k_ from fun k_ hk => trivial) _ (Nat.le_refl _)) (Below.refl _ _) (Nat.le_refl _) (by simp) ?_; (case hd => rfl); (case hg => rfl); (case hr => first | (go_simp; done) | (go_simp; rfl)); (case hp => exact (Reps.one (show Kd.FK (Kd.slice 5 (Kd.int .u8)) _ _ [] [.slice none 0 0] from (Kd.FK_slice_mk (Nat.le_refl _) (Kd.F_nil _ _ _))) (Reps.one (show Kd.FK (Kd.slice 5 (Kd.int .u8)) _ _ y425 [.slice Ao143 y425.length co143] from (Kd.FK_slice_mk (Kd.R_reads' (Kd.R_mono (ok' := (fun _ => True)) (HO427.out) (fun k_ hk => trivial))).2.1 (Kd.R_F (Kd.R_mono (ok' := (fun _ => True)) (HO427.out) (fun k_ hk => trivial))))) (Reps.one (show Kd.FK (Kd.slice 5 (Kd.int .u8)) _ _ y428 [.slice Ao144 y428.length co144] from (Kd.FK_slice_mk (Kd.R_reads' (Kd.R_mono (ok' := (fun _ => True)) (HO430.out) (fun k_ hk => trivial))).2.1 (Kd.R_F (Kd.R_mono (ok' := (fun _ => True)) (HO430.out) (fun k_ hk => trivial))))) (Reps.one (show Kd.FK (Kd.slice 5 (Kd.int .u8)) _ _ y431 [.slice Ao145 y431.length co145] from (Kd.FK_slice_mk (Kd.R_reads' (Kd.R_mono (ok' := (fun _ => True)) (HO433.out) (fun k_ hk => trivial))).2.1 (Kd.R_F (Kd.R_mono (ok' := (fun _ => True)) (HO433.out) (fun k_ hk => trivial))))) (Reps.one (show Kd.FK (Kd.slice 5 (Kd.int .u8)) _ _ y434 [.slice Ao146 y434.length co146] from (Kd.FK_slice_mk (Kd.R_reads' (Kd.R_mono (ok' := (fun _ => True)) (HO436.out) (fun k_ hk => trivial))).2.1 (Kd.R_F (Kd.R_mono (ok' := (fun _ => True)) (HO436.out) (fun k_ hk => trivial))))) (Reps.one (show Kd.FK (Kd.slice 5 (Kd.int .u8)) _ _ y437 [.slice Ao147 y437.length co147] from (Kd.FK_slice_mk (Kd.R_reads' (Kd.R_mono (ok' := (fun _ => True)) (HO439.out) (fun k_ hk => trivial))).2.1 (Kd.R_F (Kd.R_mono (ok' := (fun _ => True)) (HO439.out) (fun k_ hk => trivial))))) (Reps.one (show Kd.FK (Kd.slice 5 (Kd.int .u8)) _ _ y440 [.slice Ao148 y440.length co148] from (Kd.FK_slice_mk (Kd.R_reads' (Kd.R_mono (ok' := (fun _ => True)) (HO442.out) (fun k_ hk => trivial))).2.1 (Kd.R_F (Kd.R_mono (ok' := (fun _ => True)) (HO442.out) (fun k_ hk => trivial))))) (Reps.one (show Kd.FK (Kd.slice 5 (Kd.int .u8)) _ _ y443 [.slice Ao149 y443.length co149] from (Kd.FK_slice_mk (Kd.R_reads' (Kd.R_mono (ok' := (fun _ => True)) (HO445.out) (fun k_ hk => trivial))).2.1 (Kd.R_F (Kd.R_mono (ok' := (fun _ => True)) (HO445.out) (fun k_ hk => trivial))))) (Reps.one (show Kd.FK (Kd.slice 5 (Kd.int .u8)) _ _ y446 [.slice Ao150 y446.length co150] from (Kd.FK_slice_mk (Kd.R_reads' (Kd.R_mono (ok' := (fun _ => True)) (HO448.out) (fun k_ hk => trivial))).2.1 (Kd.R_F (Kd.R_mono (ok' := (fun _ => True)) (HO448.out) (fun k_ hk => trivial))))) (Reps.one (show Kd.FK (Kd.slice 5 (Kd.int .u8)) _ _ y449 [.slice Ao151 y449.length co151] from (Kd.FK_slice_mk (Kd.R_reads' (Kd.R_mono (ok' := (fun _ => True)) (HO451.out) (fun k_ hk => trivial))).2.1 (Kd.R_F (Kd.R_mono (ok' := (fun _ => True)) (HO451.out) (fun k_ hk => trivial))))) (Reps.one (show Kd.FK (Kd.slice 5 (Kd.int .u8)) _ _ y452 [.slice Ao152 y452.length co152] from (Kd.FK_slice_mk (Kd.R_reads' (Kd.R_mono (ok' := (fun _ => True)) (HO454.out) (fun k_ hk => trivial))).2.1 (Kd.R_F (Kd.R_mono (ok' := (fun _ => True)) (HO454.out) (fun k_ hk => trivial))))) (Reps.one (show Kd.FK (Kd.slice 5 (Kd.int .u8)) _ _ y455 [.slice Ao153 y455.length co153] from (Kd.FK_slice_mk (Kd.R_reads' (Kd.R_mono (ok' := (fun _ => True)) (HO457.out) (fun k_ hk => trivial))).2.1 (Kd.R_F (Kd.R_mono (ok' := (fun _ => True)) (HO457.out) (fun k_ hk => trivial))))) (Reps.one (show Kd.FK (Kd.slice 5 (Kd.int .u8)) _ _ y458 [.slice Ao154 y458.length co154] from (Kd.FK_slice_mk (Kd.R_reads' (Kd.R_mono (ok' := (fun _ => True)) (HO460.out) (fun k_ hk => trivial))).2.1 (Kd.R_F (Kd.R_mono (ok' := (fun _ => True)) (HO460.out) (fun k_ hk => trivial))))) (Reps.one (show Kd.FK (Kd.slice 5 (Kd.int .u8)) _ _ y461 [.slice Ao155 y461.length co155] from (Kd.FK_slice_mk (Kd.R_reads' (Kd.R_mono (ok' := (fun _ => True)) (HO463.out) (fun k_ hk => trivial))).2.1 (Kd.R_F (Kd.R_mono (ok' := (fun _ => True)) (HO463.out) (fun k_ hk => trivial))))) (Reps.none _ _)))))))))))))))); intro v465 w156 ho157 hb hg_ hnew_; clear hg_ hnew_; (first | rw [← Ny464.out] at ho157 | (simp only [Int.reduceToNat] at ho157; rw [← Ny464.out] at ho157)); have n0_ := Aside0.mk (Kd.N_lower ho157 (below_size (BB HB))); have n1_ := Aside0.mk (below_step (BB HB) hb); clear HB; clear HO427; clear HO430; clear HO433; clear HO436; clear HO439; clear HO442; clear HO445; clear HO448; clear HO451; clear HO454; clear HO457; clear HO460; clear HO463; have HO466 := n0_; have HB := n1_; clear n0_ n1_; clear hb ho157; obtain ⟨Ao158, co158, eo158⟩ := Kd.N_slice HO466.out; subst eo158))
               go_loopg [111] kj29 (fun kq v111 w' => ∃ (x111_5 : Int), v111 = .int .i64 x111_5 ∧ Aside0 (selvedgelaw20_OrderKnown.l4 kq y464 (y464.length : Int) x111_5 = some r) ∧ Aside0 (kq ≤ kj29) ∧ Aside0 (Kd.N (Kd.slice 5 (Kd.int .u8)) 23 w' w.heap.size (fun _ => True) (.slice Ao158 y464.length co158) y464) ∧ Aside0 (Below w.heap.size w w'))
               case atStart => exact ⟨(0), (by first | rfl | (simp; done) | (simp [*]; done)), H', ⟨Nat.le_refl _⟩, ⟨by (with_reducible repeat (first | apply Kd.N_alloc | apply Kd.N_drewN | apply Kd.N_drew)); exact HO466.out⟩, ⟨BB HB⟩⟩
               case round =>
                clear H'
                (try clear c1); (try clear p1); (try clear q1); (try clear hx1); (try clear hf1); (try clear c2); (try clear p2); (try clear c3); (try clear p3); (try clear q3); (try clear hx3); (try clear c4); (try clear c4b0); (try clear q4); (try clear c5); (try clear c5b0); (try clear c6); (try clear c6b0); (try clear p6); (try clear q6); (try clear c7); (try clear c8); (try clear q8); (try clear c9); (try clear c10); (try clear q10); (try clear c11); (try clear q11); (try clear c12); (try clear c12b0); (try clear c12b1); (try clear c13); (try clear c13b0); (try clear c13b1); (try clear c17); (try clear c17b0); (try clear c18); (try clear c18b0); (try clear p19); (try clear q19); (try clear hx19); (try clear hf19); (try clear c24); (try clear c24b0); (try clear c25); (try clear c25b0); (try clear c27); (try clear c31); (try clear c31b0); (try clear c31b1); (try clear c33); (try clear c35); (try clear c37); (try clear p38); (try clear q38); (try clear hx38); (try clear c39); (try clear c41); (try clear c42); (try clear c42b0); (try clear c42b1); (try clear c44); (try clear q44); (try clear p64); (try clear c66); (try clear q66); (try clear c84); (try clear q84); (try clear c101); (try clear q101); (try clear c111); (try clear q111); (try clear c114); (try clear q114); (try clear c116); (try clear hx19_0); (try clear hx387_0); (try clear p1); (try clear p19); (try clear p2); (try clear p3); (try clear p38); (try clear p387); (try clear p6); (try clear p64); (try clear q1); (try clear q10); (try clear q101); (try clear q11); (try clear q111); (try clear q114); (try clear q19); (try clear q3); (try clear q38); (try clear q387); (try clear q4); (try clear q44); (try clear q6); (try clear q66); (try clear q8); (try clear q84)
                obtain ⟨x111_5, rfl, HA, HK5, HO_109, HB⟩ := hrel
                cases gk with
                | zero => exact absurd HA.out (by simp [selvedgelaw20_OrderKnown.l4])
                | succ k5 =>
                 have H := HA.out
                 clear HA
                 simp only [selvedgelaw20_OrderKnown.l4] at H
                 by_cases c159 : x111_5 < (y464.length : Int)
                 ·rw [if_pos c159] at H; have c159b0 : decide (x111_5 < (y464.length : Int)) = true := decide_eq_true c159; clear c159; by_cases c160 : 0 ≤ x111_5
                  ·rw [if_pos c160] at H; have c160b0 : decide (0 ≤ x111_5) = true := decide_eq_true c160; clear c160; by_cases c161 : x111_5 < (y464.length : Int)
                   ·rw [if_pos c161] at H; have c161b0 : decide (x111_5 < (y464.length : Int)) = true := decide_eq_true c161; clear c161
                    obtain ⟨y468, hy468⟩ : ∃ y_ : List Int, y_ = (([1, 0] : List Int)) := ⟨_, rfl⟩
                    replace H : ((selvedgelaw20_OrderShows.f k5 (rd_L7 y464 x111_5) y468).bind fun t471 => (if t471 = true then ((selvedgelaw20_OrderTurns.f k5 (rd_L7 y464 x111_5)).bind fun t472 => (if t472 = true then (selvedgelaw20_OrderKnown.l4 k5 y464 (y464.length : Int) (wrap64 (x111_5 + 1))) else (some false))) else (some false))) = some r := by first | (rw [hy468]; with_reducible exact H) | (have H2_ := (Option.bind_some _ _).symm.trans H; rw [hy468]; with_reducible exact H2_) | (have H2_ := (Option.bind_some _ _).symm.trans H; with_reducible exact H2_) | with_reducible exact H | (rw [hy468]; exact H) | exact H
                    have Ny468 := Aside0.mk hy468; clear hy468; replace H := Option.bind_eq_some_iff.mp H; obtain ⟨t471, A1620, H⟩ := H
                    replace H : (if t471 = true then ((selvedgelaw20_OrderTurns.f k5 (rd_L7 y464 x111_5)).bind fun t472 => (if t472 = true then (selvedgelaw20_OrderKnown.l4 k5 y464 (y464.length : Int) (wrap64 (x111_5 + 1))) else (some false))) else (some false)) = some r := H
                    have A162 := Aside0.mk A1620; clear A1620; by_cases c163 : t471 = true
                    ·subst c163
                     have H1 : ((selvedgelaw20_OrderTurns.f k5 (rd_L7 y464 x111_5)).bind fun t472 => (if t472 = true then (selvedgelaw20_OrderKnown.l4 k5 y464 (y464.length : Int) (wrap64 (x111_5 + 1))) else (some false))) = some r := by rw [if_pos rfl] at H; exact H
                     clear H
                     have H := H1
                     clear H1; replace H := Option.bind_eq_some_iff.mp H; obtain ⟨t472, A1640, H⟩ := H
                     replace H : (if t472 = true then (selvedgelaw20_OrderKnown.l4 k5 y464 (y464.length : Int) (wrap64 (x111_5 + 1))) else (some false)) = some r := H
                     have A164 := Aside0.mk A1640; clear A1640; by_cases c165 : t472 = true
                     ·subst c165
                      have H1 : (selvedgelaw20_OrderKnown.l4 k5 y464 (y464.length : Int) (wrap64 (x111_5 + 1))) = some r := by rw [if_pos rfl] at H; exact H
                      clear H
                      have H := H1
                      clear H1
                      have H' := Aside0.mk H
                      clear H
                      have p467 : 0 ≤ (x111_5 : Int) := of_decide_eq_true (by first | (with_reducible assumption) | assumption)
                      have q467 : x111_5 < (y464.length : Int) := of_decide_eq_true (by first | (with_reducible assumption) | assumption)
                      obtain ⟨ad467, A467_0, c467_0, e467, hx467_0, hl467_0, hi467_0⟩ := at_L7 (Kd.N_reads' HO_109.out).2.2 x111_5 p467 q467
                      cases e467
                      obtain ⟨ce467, hce467, hMe467, hcc467⟩ := Kd.N_get HO_109.out [] x111_5 p467 (by first | exact q467 | exact of_decide_eq_true (by first | (with_reducible assumption) | assumption) | (have e_ := (Kd.N_reads' HO_109.out).1; omega))
                      obtain ⟨ua467_0, uc467_0, rfl, ul467_0, ge467_0⟩ := Kd.FK_slice_open hMe467
                      have hv467_0 := hcc467 0 _ rfl
                      rw [Nat.add_zero, show ((Kd.slice 5 (Kd.int .u8))).sz = 1 from rfl, Nat.mul_one] at hv467_0
                      replace hv467_0 := Option.some.inj (hv467_0.symm.trans hx467_0)
                      injection hv467_0 with hva_ hvn_ hvc_
                      rw [hva_] at ge467_0
                      rw [hvc_] at ul467_0
                      have HL467_0 := Aside0.mk (show Kd.V (Kd.int .u8) 5 _ w.heap.size _ _ (rd_L7 y464 x111_5) from Kd.V_mk ul467_0 ge467_0)
                      clear hva_ hvn_ hvc_ ge467_0 ul467_0; clear hcc467 hce467; have HR467_0 := Aside0.mk hi467_0; have HC467_0 := Aside0.mk hl467_0; clear hi467_0 hl467_0; replace p467 := eq_true p467; replace q467 := eq_true q467
                      go_wp2_with (first | ((with_reducible refine gate_dst (N := 116) rfl ?_); (try (refine gate_guard (by rfl) ?_; dsimp only)); refine Kd.R_lit (Kd.int .i64) _ 3 ?hg (N := 116) ?hd (xs := ([1, 0] : List Int)) (inner := [.int .i64 1, .int .i64 0]) (ok := fun _ => True) (okp := fun _ => True) ?hr ?hp (fun _ hk => hk) trivial (Below.refl _ _) (Nat.le_refl _) (by simp) ?_; (case hd => rfl); (case hg => rfl); (case hr => first | (go_simp; done) | (go_simp; rfl)); (case hp => exact (Reps.one (show Kd.M (Kd.int .i64) _ _ _ 1 [.int .i64 1] from rfl) (Reps.one (show Kd.M (Kd.int .i64) _ _ _ 0 [.int .i64 0] from rfl) (Reps.none _ _)))); intro v469 w166 ho167 hb hg_ hnew_; clear hg_ hnew_; (first | rw [← Ny468.out] at ho167 | (simp only [Int.reduceToNat] at ho167; rw [← Ny468.out] at ho167)); have n0_ := Aside0.mk (Kd.N_elder' (by (with_reducible repeat (first | apply Kd.N_alloc | apply Kd.N_drewN | apply Kd.N_drew)); exact HO_109.out) (Kd.R_base ho167) hb); have n1_ := Aside0.mk (Kd.V_elder' (by (with_reducible repeat (first | apply Kd.V_alloc | apply Kd.V_drewN | apply Kd.V_drew)); exact HL467_0.out) (Kd.R_base ho167) hb); have n2_ := Aside0.mk (Kd.R_lower ho167 (below_size (BB HB))); have n3_ := Aside0.mk (Kd.C_below (by repeat (first | (with_reducible exact HR467_0.out) | (with_reducible refine Kd.C_alloc ?_ _) | (with_reducible refine Kd.C_drewN ?_ _) | (with_reducible refine Kd.C_drew ?_) | exact HR467_0.out)) hb); have n4_ := Aside0.mk (below_step (BB HB) hb); clear HO_109; clear HL467_0; clear HR467_0; clear HB; have HO_109 := n0_; have HL467_0 := n1_; have HO470 := n2_; have HR467_0 := n3_; have HB := n4_; clear n0_ n1_ n2_ n3_ n4_; clear hb ho167; obtain ⟨Ao168, co168, eo168⟩ := Kd.R_slice HO470.out; subst eo168) | ((with_reducible refine gate_callee (f := 8) rfl ?_); refine goesL_ (some 117) rfl rfl Tryd.func8 (by kernel_rfl) rfl #[.slice A467_0 (rd_L7 y464 x111_5).length c467_0, .slice Ao168 y468.length co168] rfl (by (try simp only [List.map_toArray, List.map_cons, List.map_nil]); first | done | rfl | (simp only [List.length_drop, List.length_take]; rfl)) ?_; (with_reducible refine (selvedgelaw20_OrderShows.calls k5 _ _ (rd_L7 y464 x111_5) _ _ y468 true _ ?side1 ?side2 ?side3 ?side4 A162.out).mono ?_); (case side1 => repeat (first | exact (by repeat (first | (with_reducible exact HR467_0.out) | (with_reducible refine Kd.C_alloc ?_ _) | (with_reducible refine Kd.C_drewN ?_ _) | (with_reducible refine Kd.C_drew ?_) | exact HR467_0.out)) | (with_reducible refine Kd.C_alloc ?_ _) | (with_reducible refine Kd.C_drewN ?_ _) | (with_reducible refine Kd.C_drew ?_))); (case side2 => exact HC467_0.out); (case side3 => repeat (first | exact (Kd.R_reads' HO470.out).2.2 | (with_reducible refine Kd.C_alloc ?_ _) | (with_reducible refine Kd.C_drewN ?_ _) | (with_reducible refine Kd.C_drew ?_))); (case side4 => exact (Kd.R_reads' HO470.out).2.1); rintro e w169 ⟨rfl, hb⟩; refine ⟨_, rfl, ?_⟩; have n0_ := Aside0.mk (Kd.N_below (by (with_reducible repeat (first | apply Kd.N_alloc | apply Kd.N_drewN | apply Kd.N_drew)); exact HO_109.out) hb); have n1_ := Aside0.mk (Kd.V_below (by (with_reducible repeat (first | apply Kd.V_alloc | apply Kd.V_drewN | apply Kd.V_drew)); exact HL467_0.out) hb); have n2_ := Aside0.mk (Kd.R_below (RR HO470) hb); have n3_ := Aside0.mk (Kd.C_below (by repeat (first | (with_reducible exact HR467_0.out) | (with_reducible refine Kd.C_alloc ?_ _) | (with_reducible refine Kd.C_drewN ?_ _) | (with_reducible refine Kd.C_drew ?_) | exact HR467_0.out)) hb); have n4_ := Aside0.mk (below_step (BB HB) hb); clear HO_109; clear HL467_0; clear HO470; clear HR467_0; clear HB; have HO_109 := n0_; have HL467_0 := n1_; have HO470 := n2_; have HR467_0 := n3_; have HB := n4_; clear n0_ n1_ n2_ n3_ n4_; (try clear hb); (try clear hb2); (try clear hk); (try clear hi)) | (go_at_call 4; (with_reducible refine (selvedgelaw20_OrderTurns.calls k5 _ _ (rd_L7 y464 x111_5) true _ ?side1 ?side2 A164.out).mono ?_); (case side1 => repeat (first | exact (by repeat (first | (with_reducible exact HR467_0.out) | (with_reducible refine Kd.C_alloc ?_ _) | (with_reducible refine Kd.C_drewN ?_ _) | (with_reducible refine Kd.C_drew ?_) | exact HR467_0.out)) | (with_reducible refine Kd.C_alloc ?_ _) | (with_reducible refine Kd.C_drewN ?_ _) | (with_reducible refine Kd.C_drew ?_))); (case side2 => exact HC467_0.out); rintro e w170 ⟨rfl, hb⟩; have n0_ := Aside0.mk (Kd.N_below (by (with_reducible repeat (first | apply Kd.N_alloc | apply Kd.N_drewN | apply Kd.N_drew)); exact HO_109.out) hb); have n1_ := Aside0.mk (Kd.V_below (by (with_reducible repeat (first | apply Kd.V_alloc | apply Kd.V_drewN | apply Kd.V_drew)); exact HL467_0.out) hb); have n2_ := Aside0.mk (Kd.R_below (RR HO470) hb); have n3_ := Aside0.mk (Kd.C_below (by repeat (first | (with_reducible exact HR467_0.out) | (with_reducible refine Kd.C_alloc ?_ _) | (with_reducible refine Kd.C_drewN ?_ _) | (with_reducible refine Kd.C_drew ?_) | exact HR467_0.out)) hb); have n4_ := Aside0.mk (below_step (BB HB) hb); clear HO_109; clear HL467_0; clear HO470; clear HR467_0; clear HB; have HO_109 := n0_; have HL467_0 := n1_; have HO470 := n2_; have HR467_0 := n3_; have HB := n4_; clear n0_ n1_ n2_ n3_ n4_; (try clear hb); (try clear hb2); (try clear hk); (try clear hi)))
                      go_roundg k5
                      case measure => have := HK1.out; have := HK2.out; have := HK3.out; have := HJ29.out; have := HK5.out; omega
                      case rel => exact ⟨(wrap64 (x111_5 + 1)), (by first | rfl | (simp; done) | (simp [*]; done)), H', ⟨by have := HK1.out; have := HK2.out; have := HK3.out; have := HJ29.out; have := HK5.out; omega⟩, ⟨by (with_reducible repeat (first | apply Kd.N_alloc | apply Kd.N_drewN | apply Kd.N_drew)); exact Kd.N_mono HO_109.out (fun _ hk => trivial)⟩, ⟨BB HB⟩⟩
                     ·replace c165 := Bool.eq_false_iff.mpr c165
                      subst c165
                      have H1 : (some false) = some r := by rw [if_neg (show ¬ (false = true) by decide)] at H; exact H
                      clear H
                      have H := H1
                      clear H1; obtain rfl := Option.some.inj H
                      have p467 : 0 ≤ (x111_5 : Int) := of_decide_eq_true (by first | (with_reducible assumption) | assumption)
                      have q467 : x111_5 < (y464.length : Int) := of_decide_eq_true (by first | (with_reducible assumption) | assumption)
                      obtain ⟨ad467, A467_0, c467_0, e467, hx467_0, hl467_0, hi467_0⟩ := at_L7 (Kd.N_reads' HO_109.out).2.2 x111_5 p467 q467
                      cases e467
                      obtain ⟨ce467, hce467, hMe467, hcc467⟩ := Kd.N_get HO_109.out [] x111_5 p467 (by first | exact q467 | exact of_decide_eq_true (by first | (with_reducible assumption) | assumption) | (have e_ := (Kd.N_reads' HO_109.out).1; omega))
                      obtain ⟨ua467_0, uc467_0, rfl, ul467_0, ge467_0⟩ := Kd.FK_slice_open hMe467
                      have hv467_0 := hcc467 0 _ rfl
                      rw [Nat.add_zero, show ((Kd.slice 5 (Kd.int .u8))).sz = 1 from rfl, Nat.mul_one] at hv467_0
                      replace hv467_0 := Option.some.inj (hv467_0.symm.trans hx467_0)
                      injection hv467_0 with hva_ hvn_ hvc_
                      rw [hva_] at ge467_0
                      rw [hvc_] at ul467_0
                      have HL467_0 := Aside0.mk (show Kd.V (Kd.int .u8) 5 _ w.heap.size _ _ (rd_L7 y464 x111_5) from Kd.V_mk ul467_0 ge467_0)
                      clear hva_ hvn_ hvc_ ge467_0 ul467_0; clear hcc467 hce467; have HR467_0 := Aside0.mk hi467_0; have HC467_0 := Aside0.mk hl467_0; clear hi467_0 hl467_0; replace p467 := eq_true p467; replace q467 := eq_true q467
                      go_wp2_with (first | ((with_reducible refine gate_dst (N := 116) rfl ?_); (try (refine gate_guard (by rfl) ?_; dsimp only)); refine Kd.R_lit (Kd.int .i64) _ 3 ?hg (N := 116) ?hd (xs := ([1, 0] : List Int)) (inner := [.int .i64 1, .int .i64 0]) (ok := fun _ => True) (okp := fun _ => True) ?hr ?hp (fun _ hk => hk) trivial (Below.refl _ _) (Nat.le_refl _) (by simp) ?_; (case hd => rfl); (case hg => rfl); (case hr => first | (go_simp; done) | (go_simp; rfl)); (case hp => exact (Reps.one (show Kd.M (Kd.int .i64) _ _ _ 1 [.int .i64 1] from rfl) (Reps.one (show Kd.M (Kd.int .i64) _ _ _ 0 [.int .i64 0] from rfl) (Reps.none _ _)))); intro v469 w171 ho172 hb hg_ hnew_; clear hg_ hnew_; (first | rw [← Ny468.out] at ho172 | (simp only [Int.reduceToNat] at ho172; rw [← Ny468.out] at ho172)); have n0_ := Aside0.mk (Kd.N_elder' (by (with_reducible repeat (first | apply Kd.N_alloc | apply Kd.N_drewN | apply Kd.N_drew)); exact HO_109.out) (Kd.R_base ho172) hb); have n1_ := Aside0.mk (Kd.V_elder' (by (with_reducible repeat (first | apply Kd.V_alloc | apply Kd.V_drewN | apply Kd.V_drew)); exact HL467_0.out) (Kd.R_base ho172) hb); have n2_ := Aside0.mk (Kd.R_lower ho172 (below_size (BB HB))); have n3_ := Aside0.mk (Kd.C_below (by repeat (first | (with_reducible exact HR467_0.out) | (with_reducible refine Kd.C_alloc ?_ _) | (with_reducible refine Kd.C_drewN ?_ _) | (with_reducible refine Kd.C_drew ?_) | exact HR467_0.out)) hb); have n4_ := Aside0.mk (below_step (BB HB) hb); clear HO_109; clear HL467_0; clear HR467_0; clear HB; have HO_109 := n0_; have HL467_0 := n1_; have HO470 := n2_; have HR467_0 := n3_; have HB := n4_; clear n0_ n1_ n2_ n3_ n4_; clear hb ho172; obtain ⟨Ao173, co173, eo173⟩ := Kd.R_slice HO470.out; subst eo173) | ((with_reducible refine gate_callee (f := 8) rfl ?_); refine goesL_ (some 117) rfl rfl Tryd.func8 (by kernel_rfl) rfl #[.slice A467_0 (rd_L7 y464 x111_5).length c467_0, .slice Ao173 y468.length co173] rfl (by (try simp only [List.map_toArray, List.map_cons, List.map_nil]); first | done | rfl | (simp only [List.length_drop, List.length_take]; rfl)) ?_; (with_reducible refine (selvedgelaw20_OrderShows.calls k5 _ _ (rd_L7 y464 x111_5) _ _ y468 true _ ?side1 ?side2 ?side3 ?side4 A162.out).mono ?_); (case side1 => repeat (first | exact (by repeat (first | (with_reducible exact HR467_0.out) | (with_reducible refine Kd.C_alloc ?_ _) | (with_reducible refine Kd.C_drewN ?_ _) | (with_reducible refine Kd.C_drew ?_) | exact HR467_0.out)) | (with_reducible refine Kd.C_alloc ?_ _) | (with_reducible refine Kd.C_drewN ?_ _) | (with_reducible refine Kd.C_drew ?_))); (case side2 => exact HC467_0.out); (case side3 => repeat (first | exact (Kd.R_reads' HO470.out).2.2 | (with_reducible refine Kd.C_alloc ?_ _) | (with_reducible refine Kd.C_drewN ?_ _) | (with_reducible refine Kd.C_drew ?_))); (case side4 => exact (Kd.R_reads' HO470.out).2.1); rintro e w174 ⟨rfl, hb⟩; refine ⟨_, rfl, ?_⟩; have n0_ := Aside0.mk (Kd.N_below (by (with_reducible repeat (first | apply Kd.N_alloc | apply Kd.N_drewN | apply Kd.N_drew)); exact HO_109.out) hb); have n1_ := Aside0.mk (Kd.V_below (by (with_reducible repeat (first | apply Kd.V_alloc | apply Kd.V_drewN | apply Kd.V_drew)); exact HL467_0.out) hb); have n2_ := Aside0.mk (Kd.R_below (RR HO470) hb); have n3_ := Aside0.mk (Kd.C_below (by repeat (first | (with_reducible exact HR467_0.out) | (with_reducible refine Kd.C_alloc ?_ _) | (with_reducible refine Kd.C_drewN ?_ _) | (with_reducible refine Kd.C_drew ?_) | exact HR467_0.out)) hb); have n4_ := Aside0.mk (below_step (BB HB) hb); clear HO_109; clear HL467_0; clear HO470; clear HR467_0; clear HB; have HO_109 := n0_; have HL467_0 := n1_; have HO470 := n2_; have HR467_0 := n3_; have HB := n4_; clear n0_ n1_ n2_ n3_ n4_; (try clear hb); (try clear hb2); (try clear hk); (try clear hi)) | (go_at_call 4; (with_reducible refine (selvedgelaw20_OrderTurns.calls k5 _ _ (rd_L7 y464 x111_5) false _ ?side1 ?side2 A164.out).mono ?_); (case side1 => repeat (first | exact (by repeat (first | (with_reducible exact HR467_0.out) | (with_reducible refine Kd.C_alloc ?_ _) | (with_reducible refine Kd.C_drewN ?_ _) | (with_reducible refine Kd.C_drew ?_) | exact HR467_0.out)) | (with_reducible refine Kd.C_alloc ?_ _) | (with_reducible refine Kd.C_drewN ?_ _) | (with_reducible refine Kd.C_drew ?_))); (case side2 => exact HC467_0.out); rintro e w175 ⟨rfl, hb⟩; have n0_ := Aside0.mk (Kd.N_below (by (with_reducible repeat (first | apply Kd.N_alloc | apply Kd.N_drewN | apply Kd.N_drew)); exact HO_109.out) hb); have n1_ := Aside0.mk (Kd.V_below (by (with_reducible repeat (first | apply Kd.V_alloc | apply Kd.V_drewN | apply Kd.V_drew)); exact HL467_0.out) hb); have n2_ := Aside0.mk (Kd.R_below (RR HO470) hb); have n3_ := Aside0.mk (Kd.C_below (by repeat (first | (with_reducible exact HR467_0.out) | (with_reducible refine Kd.C_alloc ?_ _) | (with_reducible refine Kd.C_drewN ?_ _) | (with_reducible refine Kd.C_drew ?_) | exact HR467_0.out)) hb); have n4_ := Aside0.mk (below_step (BB HB) hb); clear HO_109; clear HL467_0; clear HO470; clear HR467_0; clear HB; have HO_109 := n0_; have HL467_0 := n1_; have HO470 := n2_; have HR467_0 := n3_; have HB := n4_; clear n0_ n1_ n2_ n3_ n4_; (try clear hb); (try clear hb2); (try clear hk); (try clear hi)))
                      go_ret
                      exact ⟨FF, BB HB⟩
                    ·replace c163 := Bool.eq_false_iff.mpr c163
                     subst c163
                     have H1 : (some false) = some r := by rw [if_neg (show ¬ (false = true) by decide)] at H; exact H
                     clear H
                     have H := H1
                     clear H1; obtain rfl := Option.some.inj H
                     have p467 : 0 ≤ (x111_5 : Int) := of_decide_eq_true (by first | (with_reducible assumption) | assumption)
                     have q467 : x111_5 < (y464.length : Int) := of_decide_eq_true (by first | (with_reducible assumption) | assumption)
                     obtain ⟨ad467, A467_0, c467_0, e467, hx467_0, hl467_0, hi467_0⟩ := at_L7 (Kd.N_reads' HO_109.out).2.2 x111_5 p467 q467
                     cases e467
                     obtain ⟨ce467, hce467, hMe467, hcc467⟩ := Kd.N_get HO_109.out [] x111_5 p467 (by first | exact q467 | exact of_decide_eq_true (by first | (with_reducible assumption) | assumption) | (have e_ := (Kd.N_reads' HO_109.out).1; omega))
                     obtain ⟨ua467_0, uc467_0, rfl, ul467_0, ge467_0⟩ := Kd.FK_slice_open hMe467
                     have hv467_0 := hcc467 0 _ rfl
                     rw [Nat.add_zero, show ((Kd.slice 5 (Kd.int .u8))).sz = 1 from rfl, Nat.mul_one] at hv467_0
                     replace hv467_0 := Option.some.inj (hv467_0.symm.trans hx467_0)
                     injection hv467_0 with hva_ hvn_ hvc_
                     rw [hva_] at ge467_0
                     rw [hvc_] at ul467_0
                     have HL467_0 := Aside0.mk (show Kd.V (Kd.int .u8) 5 _ w.heap.size _ _ (rd_L7 y464 x111_5) from Kd.V_mk ul467_0 ge467_0)
                     clear hva_ hvn_ hvc_ ge467_0 ul467_0; clear hcc467 hce467; have HR467_0 := Aside0.mk hi467_0; have HC467_0 := Aside0.mk hl467_0; clear hi467_0 hl467_0; replace p467 := eq_true p467; replace q467 := eq_true q467
                     go_wp2_with (first | ((with_reducible refine gate_dst (N := 116) rfl ?_); (try (refine gate_guard (by rfl) ?_; dsimp only)); refine Kd.R_lit (Kd.int .i64) _ 3 ?hg (N := 116) ?hd (xs := ([1, 0] : List Int)) (inner := [.int .i64 1, .int .i64 0]) (ok := fun _ => True) (okp := fun _ => True) ?hr ?hp (fun _ hk => hk) trivial (Below.refl _ _) (Nat.le_refl _) (by simp) ?_; (case hd => rfl); (case hg => rfl); (case hr => first | (go_simp; done) | (go_simp; rfl)); (case hp => exact (Reps.one (show Kd.M (Kd.int .i64) _ _ _ 1 [.int .i64 1] from rfl) (Reps.one (show Kd.M (Kd.int .i64) _ _ _ 0 [.int .i64 0] from rfl) (Reps.none _ _)))); intro v469 w176 ho177 hb hg_ hnew_; clear hg_ hnew_; (first | rw [← Ny468.out] at ho177 | (simp only [Int.reduceToNat] at ho177; rw [← Ny468.out] at ho177)); have n0_ := Aside0.mk (Kd.N_elder' (by (with_reducible repeat (first | apply Kd.N_alloc | apply Kd.N_drewN | apply Kd.N_drew)); exact HO_109.out) (Kd.R_base ho177) hb); have n1_ := Aside0.mk (Kd.V_elder' (by (with_reducible repeat (first | apply Kd.V_alloc | apply Kd.V_drewN | apply Kd.V_drew)); exact HL467_0.out) (Kd.R_base ho177) hb); have n2_ := Aside0.mk (Kd.R_lower ho177 (below_size (BB HB))); have n3_ := Aside0.mk (Kd.C_below (by repeat (first | (with_reducible exact HR467_0.out) | (with_reducible refine Kd.C_alloc ?_ _) | (with_reducible refine Kd.C_drewN ?_ _) | (with_reducible refine Kd.C_drew ?_) | exact HR467_0.out)) hb); have n4_ := Aside0.mk (below_step (BB HB) hb); clear HO_109; clear HL467_0; clear HR467_0; clear HB; have HO_109 := n0_; have HL467_0 := n1_; have HO470 := n2_; have HR467_0 := n3_; have HB := n4_; clear n0_ n1_ n2_ n3_ n4_; clear hb ho177; obtain ⟨Ao178, co178, eo178⟩ := Kd.R_slice HO470.out; subst eo178) | ((with_reducible refine gate_callee (f := 8) rfl ?_); refine goesL_ (some 117) rfl rfl Tryd.func8 (by kernel_rfl) rfl #[.slice A467_0 (rd_L7 y464 x111_5).length c467_0, .slice Ao178 y468.length co178] rfl (by (try simp only [List.map_toArray, List.map_cons, List.map_nil]); first | done | rfl | (simp only [List.length_drop, List.length_take]; rfl)) ?_; (with_reducible refine (selvedgelaw20_OrderShows.calls k5 _ _ (rd_L7 y464 x111_5) _ _ y468 false _ ?side1 ?side2 ?side3 ?side4 A162.out).mono ?_); (case side1 => repeat (first | exact (by repeat (first | (with_reducible exact HR467_0.out) | (with_reducible refine Kd.C_alloc ?_ _) | (with_reducible refine Kd.C_drewN ?_ _) | (with_reducible refine Kd.C_drew ?_) | exact HR467_0.out)) | (with_reducible refine Kd.C_alloc ?_ _) | (with_reducible refine Kd.C_drewN ?_ _) | (with_reducible refine Kd.C_drew ?_))); (case side2 => exact HC467_0.out); (case side3 => repeat (first | exact (Kd.R_reads' HO470.out).2.2 | (with_reducible refine Kd.C_alloc ?_ _) | (with_reducible refine Kd.C_drewN ?_ _) | (with_reducible refine Kd.C_drew ?_))); (case side4 => exact (Kd.R_reads' HO470.out).2.1); rintro e w179 ⟨rfl, hb⟩; refine ⟨_, rfl, ?_⟩; have n0_ := Aside0.mk (Kd.N_below (by (with_reducible repeat (first | apply Kd.N_alloc | apply Kd.N_drewN | apply Kd.N_drew)); exact HO_109.out) hb); have n1_ := Aside0.mk (Kd.V_below (by (with_reducible repeat (first | apply Kd.V_alloc | apply Kd.V_drewN | apply Kd.V_drew)); exact HL467_0.out) hb); have n2_ := Aside0.mk (Kd.R_below (RR HO470) hb); have n3_ := Aside0.mk (Kd.C_below (by repeat (first | (with_reducible exact HR467_0.out) | (with_reducible refine Kd.C_alloc ?_ _) | (with_reducible refine Kd.C_drewN ?_ _) | (with_reducible refine Kd.C_drew ?_) | exact HR467_0.out)) hb); have n4_ := Aside0.mk (below_step (BB HB) hb); clear HO_109; clear HL467_0; clear HO470; clear HR467_0; clear HB; have HO_109 := n0_; have HL467_0 := n1_; have HO470 := n2_; have HR467_0 := n3_; have HB := n4_; clear n0_ n1_ n2_ n3_ n4_; (try clear hb); (try clear hb2); (try clear hk); (try clear hi)))
                     go_ret
                     exact ⟨FF, BB HB⟩
                   ·rw [if_neg c161] at H
                    exact absurd H (by simp)
                  ·rw [if_neg c160] at H
                   exact absurd H (by simp)
                 ·rw [if_neg c159] at H; have c159b0 : decide (x111_5 < (y464.length : Int)) = false := decide_eq_false c159; clear c159
                  obtain ⟨y473, hy473⟩ : ∃ y_ : List Int, y_ = (([0, 0] : List Int)) := ⟨_, rfl⟩
                  replace H : ((some (([y473, (([1, 2] : List Int)), (([(-1), 0] : List Int)), (([2, 0, 1] : List Int)), (([4611686018427387904] : List Int)), (([(-9223372036854775808)] : List Int))] : List (List Int)) : List (List Int))).bind fun y491 => (selvedgelaw20_OrderKnown.l5 k5 y491 (y491.length : Int) 0)) = some r := by first | (rw [hy473]; with_reducible exact H) | (have H2_ := (Option.bind_some _ _).symm.trans H; rw [hy473]; with_reducible exact H2_) | (have H2_ := (Option.bind_some _ _).symm.trans H; with_reducible exact H2_) | with_reducible exact H | (rw [hy473]; exact H) | exact H
                  have Ny473 := Aside0.mk hy473; clear hy473
                  obtain ⟨y476, hy476⟩ : ∃ y_ : List Int, y_ = (([1, 2] : List Int)) := ⟨_, rfl⟩
                  replace H : ((some (([y473, y476, (([(-1), 0] : List Int)), (([2, 0, 1] : List Int)), (([4611686018427387904] : List Int)), (([(-9223372036854775808)] : List Int))] : List (List Int)) : List (List Int))).bind fun y491 => (selvedgelaw20_OrderKnown.l5 k5 y491 (y491.length : Int) 0)) = some r := by first | (rw [hy476]; with_reducible exact H) | (have H2_ := (Option.bind_some _ _).symm.trans H; rw [hy476]; with_reducible exact H2_) | (have H2_ := (Option.bind_some _ _).symm.trans H; with_reducible exact H2_) | with_reducible exact H | (rw [hy476]; exact H) | exact H
                  have Ny476 := Aside0.mk hy476; clear hy476
                  obtain ⟨y479, hy479⟩ : ∃ y_ : List Int, y_ = (([(-1), 0] : List Int)) := ⟨_, rfl⟩
                  replace H : ((some (([y473, y476, y479, (([2, 0, 1] : List Int)), (([4611686018427387904] : List Int)), (([(-9223372036854775808)] : List Int))] : List (List Int)) : List (List Int))).bind fun y491 => (selvedgelaw20_OrderKnown.l5 k5 y491 (y491.length : Int) 0)) = some r := by first | (rw [hy479]; with_reducible exact H) | (have H2_ := (Option.bind_some _ _).symm.trans H; rw [hy479]; with_reducible exact H2_) | (have H2_ := (Option.bind_some _ _).symm.trans H; with_reducible exact H2_) | with_reducible exact H | (rw [hy479]; exact H) | exact H
                  have Ny479 := Aside0.mk hy479; clear hy479
                  obtain ⟨y482, hy482⟩ : ∃ y_ : List Int, y_ = (([2, 0, 1] : List Int)) := ⟨_, rfl⟩
                  replace H : ((some (([y473, y476, y479, y482, (([4611686018427387904] : List Int)), (([(-9223372036854775808)] : List Int))] : List (List Int)) : List (List Int))).bind fun y491 => (selvedgelaw20_OrderKnown.l5 k5 y491 (y491.length : Int) 0)) = some r := by first | (rw [hy482]; with_reducible exact H) | (have H2_ := (Option.bind_some _ _).symm.trans H; rw [hy482]; with_reducible exact H2_) | (have H2_ := (Option.bind_some _ _).symm.trans H; with_reducible exact H2_) | with_reducible exact H | (rw [hy482]; exact H) | exact H
                  have Ny482 := Aside0.mk hy482; clear hy482
                  obtain ⟨y485, hy485⟩ : ∃ y_ : List Int, y_ = (([4611686018427387904] : List Int)) := ⟨_, rfl⟩
                  replace H : ((some (([y473, y476, y479, y482, y485, (([(-9223372036854775808)] : List Int))] : List (List Int)) : List (List Int))).bind fun y491 => (selvedgelaw20_OrderKnown.l5 k5 y491 (y491.length : Int) 0)) = some r := by first | (rw [hy485]; with_reducible exact H) | (have H2_ := (Option.bind_some _ _).symm.trans H; rw [hy485]; with_reducible exact H2_) | (have H2_ := (Option.bind_some _ _).symm.trans H; with_reducible exact H2_) | with_reducible exact H | (rw [hy485]; exact H) | exact H
                  have Ny485 := Aside0.mk hy485; clear hy485
                  obtain ⟨y488, hy488⟩ : ∃ y_ : List Int, y_ = (([(-9223372036854775808)] : List Int)) := ⟨_, rfl⟩
                  replace H : ((some (([y473, y476, y479, y482, y485, y488] : List (List Int)) : List (List Int))).bind fun y491 => (selvedgelaw20_OrderKnown.l5 k5 y491 (y491.length : Int) 0)) = some r := by first | (rw [hy488]; with_reducible exact H) | (have H2_ := (Option.bind_some _ _).symm.trans H; rw [hy488]; with_reducible exact H2_) | (have H2_ := (Option.bind_some _ _).symm.trans H; with_reducible exact H2_) | with_reducible exact H | (rw [hy488]; exact H) | exact H
                  have Ny488 := Aside0.mk hy488; clear hy488
                  obtain ⟨y491, hy491⟩ : ∃ y_ : List (List Int), y_ = (([y473, y476, y479, y482, y485, y488] : List (List Int))) := ⟨_, rfl⟩
                  replace H : (selvedgelaw20_OrderKnown.l5 k5 y491 (y491.length : Int) 0) = some r := by first | (rw [hy491]; with_reducible exact H) | (have H2_ := (Option.bind_some _ _).symm.trans H; rw [hy491]; with_reducible exact H2_) | (have H2_ := (Option.bind_some _ _).symm.trans H; with_reducible exact H2_) | with_reducible exact H | (rw [hy491]; exact H) | exact H
                  have Ny491 := Aside0.mk hy491; clear hy491
                  have H' := Aside0.mk H
                  clear H
                  go_wp2_with (first | ((with_reducible refine gate_dst (N := 125) rfl ?_); (try (refine gate_guard (by rfl) ?_; dsimp only)); refine Kd.R_lit (Kd.int .i64) _ 3 ?hg (N := 125) ?hd (xs := ([0, 0] : List Int)) (inner := [.int .i64 0, .int .i64 0]) (ok := fun _ => True) (okp := fun _ => True) ?hr ?hp (fun _ hk => hk) trivial (Below.refl _ _) (Nat.le_refl _) (by simp) ?_; (case hd => rfl); (case hg => rfl); (case hr => first | (go_simp; done) | (go_simp; rfl)); (case hp => exact (Reps.one (show Kd.M (Kd.int .i64) _ _ _ 0 [.int .i64 0] from rfl) (Reps.one (show Kd.M (Kd.int .i64) _ _ _ 0 [.int .i64 0] from rfl) (Reps.none _ _)))); intro v474 w180 ho181 hb hg_ hnew_; clear hg_ hnew_; (first | rw [← Ny473.out] at ho181 | (simp only [Int.reduceToNat] at ho181; rw [← Ny473.out] at ho181)); have n0_ := Aside0.mk (Kd.N_elder' (by (with_reducible repeat (first | apply Kd.N_alloc | apply Kd.N_drewN | apply Kd.N_drew)); exact HO_109.out) (Kd.R_base ho181) hb); have n1_ := Aside0.mk (Kd.R_lower ho181 (below_size (BB HB))); have n2_ := Aside0.mk (below_step (BB HB) hb); clear HO_109; clear HB; have HO_109 := n0_; have HO475 := n1_; have HB := n2_; clear n0_ n1_ n2_; clear hb ho181) | ((with_reducible refine gate_dst (N := 126) rfl ?_); (try (refine gate_guard (by rfl) ?_; dsimp only)); refine Kd.R_lit (Kd.int .i64) _ 3 ?hg (N := 126) ?hd (xs := ([1, 2] : List Int)) (inner := [.int .i64 1, .int .i64 2]) (ok := fun _ => True) (okp := fun _ => True) ?hr ?hp (fun _ hk => hk) trivial (Below.refl _ _) (Nat.le_refl _) (by simp) ?_; (case hd => rfl); (case hg => rfl); (case hr => first | (go_simp; done) | (go_simp; rfl)); (case hp => exact (Reps.one (show Kd.M (Kd.int .i64) _ _ _ 1 [.int .i64 1] from rfl) (Reps.one (show Kd.M (Kd.int .i64) _ _ _ 2 [.int .i64 2] from rfl) (Reps.none _ _)))); intro v477 w182 ho183 hb hg_ hnew_; clear hg_ hnew_; (first | rw [← Ny476.out] at ho183 | (simp only [Int.reduceToNat] at ho183; rw [← Ny476.out] at ho183)); have n0_ := Aside0.mk (Kd.N_elder' (by (with_reducible repeat (first | apply Kd.N_alloc | apply Kd.N_drewN | apply Kd.N_drew)); exact HO_109.out) (Kd.R_base ho183) hb); have n1_ := Aside0.mk (Kd.R_elder' (RR HO475) (Kd.R_base ho183) hb); have n2_ := Aside0.mk (Kd.R_lower (Kd.R_new' ho183 (Kd.R_lt (RR HO475))) (below_size (BB HB))); have n3_ := Aside0.mk (below_step (BB HB) hb); clear HO_109; clear HO475; clear HB; have HO_109 := n0_; have HO475 := n1_; have HO478 := n2_; have HB := n3_; clear n0_ n1_ n2_ n3_; clear hb ho183) | ((with_reducible refine gate_dst (N := 127) rfl ?_); (try (refine gate_guard (by rfl) ?_; dsimp only)); refine Kd.R_lit (Kd.int .i64) _ 3 ?hg (N := 127) ?hd (xs := ([(-1), 0] : List Int)) (inner := [.int .i64 (-1), .int .i64 0]) (ok := fun _ => True) (okp := fun _ => True) ?hr ?hp (fun _ hk => hk) trivial (Below.refl _ _) (Nat.le_refl _) (by simp) ?_; (case hd => rfl); (case hg => rfl); (case hr => first | (go_simp; done) | (go_simp; rfl)); (case hp => exact (Reps.one (show Kd.M (Kd.int .i64) _ _ _ (-1) [.int .i64 (-1)] from rfl) (Reps.one (show Kd.M (Kd.int .i64) _ _ _ 0 [.int .i64 0] from rfl) (Reps.none _ _)))); intro v480 w184 ho185 hb hg_ hnew_; clear hg_ hnew_; (first | rw [← Ny479.out] at ho185 | (simp only [Int.reduceToNat] at ho185; rw [← Ny479.out] at ho185)); have n0_ := Aside0.mk (Kd.N_elder' (by (with_reducible repeat (first | apply Kd.N_alloc | apply Kd.N_drewN | apply Kd.N_drew)); exact HO_109.out) (Kd.R_base ho185) hb); have n1_ := Aside0.mk (Kd.R_elder' (RR HO475) (Kd.R_base ho185) hb); have n2_ := Aside0.mk (Kd.R_elder' (RR HO478) (Kd.R_base ho185) hb); have n3_ := Aside0.mk (Kd.R_lower (Kd.R_new' (Kd.R_new' ho185 (Kd.R_lt (RR HO475))) (Kd.R_lt (RR HO478))) (below_size (BB HB))); have n4_ := Aside0.mk (below_step (BB HB) hb); clear HO_109; clear HO475; clear HO478; clear HB; have HO_109 := n0_; have HO475 := n1_; have HO478 := n2_; have HO481 := n3_; have HB := n4_; clear n0_ n1_ n2_ n3_ n4_; clear hb ho185) | ((with_reducible refine gate_dst (N := 128) rfl ?_); (try (refine gate_guard (by rfl) ?_; dsimp only)); refine Kd.R_lit (Kd.int .i64) _ 3 ?hg (N := 128) ?hd (xs := ([2, 0, 1] : List Int)) (inner := [.int .i64 2, .int .i64 0, .int .i64 1]) (ok := fun _ => True) (okp := fun _ => True) ?hr ?hp (fun _ hk => hk) trivial (Below.refl _ _) (Nat.le_refl _) (by simp) ?_; (case hd => rfl); (case hg => rfl); (case hr => first | (go_simp; done) | (go_simp; rfl)); (case hp => exact (Reps.one (show Kd.M (Kd.int .i64) _ _ _ 2 [.int .i64 2] from rfl) (Reps.one (show Kd.M (Kd.int .i64) _ _ _ 0 [.int .i64 0] from rfl) (Reps.one (show Kd.M (Kd.int .i64) _ _ _ 1 [.int .i64 1] from rfl) (Reps.none _ _))))); intro v483 w186 ho187 hb hg_ hnew_; clear hg_ hnew_; (first | rw [← Ny482.out] at ho187 | (simp only [Int.reduceToNat] at ho187; rw [← Ny482.out] at ho187)); have n0_ := Aside0.mk (Kd.N_elder' (by (with_reducible repeat (first | apply Kd.N_alloc | apply Kd.N_drewN | apply Kd.N_drew)); exact HO_109.out) (Kd.R_base ho187) hb); have n1_ := Aside0.mk (Kd.R_elder' (RR HO475) (Kd.R_base ho187) hb); have n2_ := Aside0.mk (Kd.R_elder' (RR HO478) (Kd.R_base ho187) hb); have n3_ := Aside0.mk (Kd.R_elder' (RR HO481) (Kd.R_base ho187) hb); have n4_ := Aside0.mk (Kd.R_lower (Kd.R_new' (Kd.R_new' (Kd.R_new' ho187 (Kd.R_lt (RR HO475))) (Kd.R_lt (RR HO478))) (Kd.R_lt (RR HO481))) (below_size (BB HB))); have n5_ := Aside0.mk (below_step (BB HB) hb); clear HO_109; clear HO475; clear HO478; clear HO481; clear HB; have HO_109 := n0_; have HO475 := n1_; have HO478 := n2_; have HO481 := n3_; have HO484 := n4_; have HB := n5_; clear n0_ n1_ n2_ n3_ n4_ n5_; clear hb ho187) | ((with_reducible refine gate_dst (N := 129) rfl ?_); (try (refine gate_guard (by rfl) ?_; dsimp only)); refine Kd.R_lit (Kd.int .i64) _ 3 ?hg (N := 129) ?hd (xs := ([4611686018427387904] : List Int)) (inner := [.int .i64 4611686018427387904]) (ok := fun _ => True) (okp := fun _ => True) ?hr ?hp (fun _ hk => hk) trivial (Below.refl _ _) (Nat.le_refl _) (by simp) ?_; (case hd => rfl); (case hg => rfl); (case hr => first | (go_simp; done) | (go_simp; rfl)); (case hp => exact (Reps.one (show Kd.M (Kd.int .i64) _ _ _ 4611686018427387904 [.int .i64 4611686018427387904] from rfl) (Reps.none _ _))); intro v486 w188 ho189 hb hg_ hnew_; clear hg_ hnew_; (first | rw [← Ny485.out] at ho189 | (simp only [Int.reduceToNat] at ho189; rw [← Ny485.out] at ho189)); have n0_ := Aside0.mk (Kd.N_elder' (by (with_reducible repeat (first | apply Kd.N_alloc | apply Kd.N_drewN | apply Kd.N_drew)); exact HO_109.out) (Kd.R_base ho189) hb); have n1_ := Aside0.mk (Kd.R_elder' (RR HO475) (Kd.R_base ho189) hb); have n2_ := Aside0.mk (Kd.R_elder' (RR HO478) (Kd.R_base ho189) hb); have n3_ := Aside0.mk (Kd.R_elder' (RR HO481) (Kd.R_base ho189) hb); have n4_ := Aside0.mk (Kd.R_elder' (RR HO484) (Kd.R_base ho189) hb); have n5_ := Aside0.mk (Kd.R_lower (Kd.R_new' (Kd.R_new' (Kd.R_new' (Kd.R_new' ho189 (Kd.R_lt (RR HO475))) (Kd.R_lt (RR HO478))) (Kd.R_lt (RR HO481))) (Kd.R_lt (RR HO484))) (below_size (BB HB))); have n6_ := Aside0.mk (below_step (BB HB) hb); clear HO_109; clear HO475; clear HO478; clear HO481; clear HO484; clear HB; have HO_109 := n0_; have HO475 := n1_; have HO478 := n2_; have HO481 := n3_; have HO484 := n4_; have HO487 := n5_; have HB := n6_; clear n0_ n1_ n2_ n3_ n4_ n5_ n6_; clear hb ho189) | ((with_reducible refine gate_dst (N := 130) rfl ?_); (try (refine gate_guard (by rfl) ?_; dsimp only)); refine Kd.R_lit (Kd.int .i64) _ 3 ?hg (N := 130) ?hd (xs := ([(-9223372036854775808)] : List Int)) (inner := [.int .i64 (-9223372036854775808)]) (ok := fun _ => True) (okp := fun _ => True) ?hr ?hp (fun _ hk => hk) trivial (Below.refl _ _) (Nat.le_refl _) (by simp) ?_; (case hd => rfl); (case hg => rfl); (case hr => first | (go_simp; done) | (go_simp; rfl)); (case hp => exact (Reps.one (show Kd.M (Kd.int .i64) _ _ _ (-9223372036854775808) [.int .i64 (-9223372036854775808)] from rfl) (Reps.none _ _))); intro v489 w190 ho191 hb hg_ hnew_; clear hg_ hnew_; (first | rw [← Ny488.out] at ho191 | (simp only [Int.reduceToNat] at ho191; rw [← Ny488.out] at ho191)); have n0_ := Aside0.mk (Kd.N_elder' (by (with_reducible repeat (first | apply Kd.N_alloc | apply Kd.N_drewN | apply Kd.N_drew)); exact HO_109.out) (Kd.R_base ho191) hb); have n1_ := Aside0.mk (Kd.R_elder' (RR HO475) (Kd.R_base ho191) hb); have n2_ := Aside0.mk (Kd.R_elder' (RR HO478) (Kd.R_base ho191) hb); have n3_ := Aside0.mk (Kd.R_elder' (RR HO481) (Kd.R_base ho191) hb); have n4_ := Aside0.mk (Kd.R_elder' (RR HO484) (Kd.R_base ho191) hb); have n5_ := Aside0.mk (Kd.R_elder' (RR HO487) (Kd.R_base ho191) hb); have n6_ := Aside0.mk (Kd.R_lower (Kd.R_new' (Kd.R_new' (Kd.R_new' (Kd.R_new' (Kd.R_new' ho191 (Kd.R_lt (RR HO475))) (Kd.R_lt (RR HO478))) (Kd.R_lt (RR HO481))) (Kd.R_lt (RR HO484))) (Kd.R_lt (RR HO487))) (below_size (BB HB))); have n7_ := Aside0.mk (below_step (BB HB) hb); clear HO_109; clear HO475; clear HO478; clear HO481; clear HO484; clear HO487; clear HB; have HO_109 := n0_; have HO475 := n1_; have HO478 := n2_; have HO481 := n3_; have HO484 := n4_; have HO487 := n5_; have HO490 := n6_; have HB := n7_; clear n0_ n1_ n2_ n3_ n4_ n5_ n6_ n7_; clear hb ho191; obtain ⟨Ao192, co192, eo192⟩ := Kd.R_slice HO475.out; subst eo192; obtain ⟨Ao193, co193, eo193⟩ := Kd.R_slice HO478.out; subst eo193; obtain ⟨Ao194, co194, eo194⟩ := Kd.R_slice HO481.out; subst eo194; obtain ⟨Ao195, co195, eo195⟩ := Kd.R_slice HO484.out; subst eo195; obtain ⟨Ao196, co196, eo196⟩ := Kd.R_slice HO487.out; subst eo196; obtain ⟨Ao197, co197, eo197⟩ := Kd.R_slice HO490.out; subst eo197) | ((with_reducible refine gate_dst (N := 131) rfl ?_); (try (refine gate_guard (by rfl) ?_; dsimp only)); refine Kd.N_lit (Kd.slice 3 (Kd.int .i64)) _ 30 ?hg (N' := 131) ?hd (xs := ([y473, y476, y479, y482, y485, y488] : List (List Int))) (inner := [.slice Ao192 y473.length co192, .slice Ao193 y476.length co193, .slice Ao194 y479.length co194, .slice Ao195 y482.length co195, .slice Ao196 y485.length co196, .slice Ao197 y488.length co197]) (ok := (fun k_ => some k_ ≠ (.slice Ao158 y464.length co158 : Value).ownBlock)) (okp := (fun k_ => some k_ ≠ (.slice Ao158 y464.length co158 : Value).ownBlock)) ?hr ?hp (fun _ hk => hk) ((show ∀ k_, w190.heap.size ≤ k_ → (fun k_ => some k_ ≠ (.slice Ao158 y464.length co158 : Value).ownBlock) k_ from fun k_ hk => Kd.fresh' (Kd.N_lt (by (with_reducible repeat (first | apply Kd.N_alloc | apply Kd.N_drewN | apply Kd.N_drew)); exact HO_109.out)) k_ hk) _ (Nat.le_refl _)) (Below.refl _ _) (Nat.le_refl _) (by simp) ?_; (case hd => rfl); (case hg => rfl); (case hr => first | (go_simp; done) | (go_simp; rfl)); (case hp => exact (Reps.one (show Kd.FK (Kd.slice 3 (Kd.int .i64)) _ _ y473 [.slice Ao192 y473.length co192] from (Kd.FK_slice_mk (Kd.R_reads' (Kd.R_mono (ok' := (fun k_ => some k_ ≠ (.slice Ao158 y464.length co158 : Value).ownBlock)) (Kd.R_apart' (HO475.out) (Kd.N_typed HO_109.out) (by decide)) (fun k_ hk => hk.2))).2.1 (Kd.R_F (Kd.R_mono (ok' := (fun k_ => some k_ ≠ (.slice Ao158 y464.length co158 : Value).ownBlock)) (Kd.R_apart' (HO475.out) (Kd.N_typed HO_109.out) (by decide)) (fun k_ hk => hk.2))))) (Reps.one (show Kd.FK (Kd.slice 3 (Kd.int .i64)) _ _ y476 [.slice Ao193 y476.length co193] from (Kd.FK_slice_mk (Kd.R_reads' (Kd.R_mono (ok' := (fun k_ => some k_ ≠ (.slice Ao158 y464.length co158 : Value).ownBlock)) (Kd.R_apart' (HO478.out) (Kd.N_typed HO_109.out) (by decide)) (fun k_ hk => hk.2))).2.1 (Kd.R_F (Kd.R_mono (ok' := (fun k_ => some k_ ≠ (.slice Ao158 y464.length co158 : Value).ownBlock)) (Kd.R_apart' (HO478.out) (Kd.N_typed HO_109.out) (by decide)) (fun k_ hk => hk.2))))) (Reps.one (show Kd.FK (Kd.slice 3 (Kd.int .i64)) _ _ y479 [.slice Ao194 y479.length co194] from (Kd.FK_slice_mk (Kd.R_reads' (Kd.R_mono (ok' := (fun k_ => some k_ ≠ (.slice Ao158 y464.length co158 : Value).ownBlock)) (Kd.R_apart' (HO481.out) (Kd.N_typed HO_109.out) (by decide)) (fun k_ hk => hk.2))).2.1 (Kd.R_F (Kd.R_mono (ok' := (fun k_ => some k_ ≠ (.slice Ao158 y464.length co158 : Value).ownBlock)) (Kd.R_apart' (HO481.out) (Kd.N_typed HO_109.out) (by decide)) (fun k_ hk => hk.2))))) (Reps.one (show Kd.FK (Kd.slice 3 (Kd.int .i64)) _ _ y482 [.slice Ao195 y482.length co195] from (Kd.FK_slice_mk (Kd.R_reads' (Kd.R_mono (ok' := (fun k_ => some k_ ≠ (.slice Ao158 y464.length co158 : Value).ownBlock)) (Kd.R_apart' (HO484.out) (Kd.N_typed HO_109.out) (by decide)) (fun k_ hk => hk.2))).2.1 (Kd.R_F (Kd.R_mono (ok' := (fun k_ => some k_ ≠ (.slice Ao158 y464.length co158 : Value).ownBlock)) (Kd.R_apart' (HO484.out) (Kd.N_typed HO_109.out) (by decide)) (fun k_ hk => hk.2))))) (Reps.one (show Kd.FK (Kd.slice 3 (Kd.int .i64)) _ _ y485 [.slice Ao196 y485.length co196] from (Kd.FK_slice_mk (Kd.R_reads' (Kd.R_mono (ok' := (fun k_ => some k_ ≠ (.slice Ao158 y464.length co158 : Value).ownBlock)) (Kd.R_apart' (HO487.out) (Kd.N_typed HO_109.out) (by decide)) (fun k_ hk => hk.2))).2.1 (Kd.R_F (Kd.R_mono (ok' := (fun k_ => some k_ ≠ (.slice Ao158 y464.length co158 : Value).ownBlock)) (Kd.R_apart' (HO487.out) (Kd.N_typed HO_109.out) (by decide)) (fun k_ hk => hk.2))))) (Reps.one (show Kd.FK (Kd.slice 3 (Kd.int .i64)) _ _ y488 [.slice Ao197 y488.length co197] from (Kd.FK_slice_mk (Kd.R_reads' (Kd.R_mono (ok' := (fun k_ => some k_ ≠ (.slice Ao158 y464.length co158 : Value).ownBlock)) (Kd.R_apart' (HO490.out) (Kd.N_typed HO_109.out) (by decide)) (fun k_ hk => hk.2))).2.1 (Kd.R_F (Kd.R_mono (ok' := (fun k_ => some k_ ≠ (.slice Ao158 y464.length co158 : Value).ownBlock)) (Kd.R_apart' (HO490.out) (Kd.N_typed HO_109.out) (by decide)) (fun k_ hk => hk.2))))) (Reps.none _ _)))))))); intro v492 w198 ho199 hb hg_ hnew_; clear hg_ hnew_; (first | rw [← Ny491.out] at ho199 | (simp only [Int.reduceToNat] at ho199; rw [← Ny491.out] at ho199)); have n0_ := Aside0.mk (Kd.N_elder' (by (with_reducible repeat (first | apply Kd.N_alloc | apply Kd.N_drewN | apply Kd.N_drew)); exact HO_109.out) (Kd.N_base ho199) hb); have n1_ := Aside0.mk (Kd.N_lower ho199 (below_size (BB HB))); have n2_ := Aside0.mk (below_step (BB HB) hb); clear HO_109; clear HB; clear HO475; clear HO478; clear HO481; clear HO484; clear HO487; clear HO490; have HO_109 := n0_; have HO493 := n1_; have HB := n2_; clear n0_ n1_ n2_; clear hb ho199; obtain ⟨Ao200, co200, eo200⟩ := Kd.N_slice HO493.out; subst eo200))
                  go_loopg [133] k5 (fun kq v133 w' => ∃ (x133_6 : Int), v133 = .int .i64 x133_6 ∧ Aside0 (selvedgelaw20_OrderKnown.l5 kq y491 (y491.length : Int) x133_6 = some r) ∧ Aside0 (kq ≤ k5) ∧ Aside0 (Kd.N (Kd.slice 3 (Kd.int .i64)) 30 w' w.heap.size (fun _ => True) (.slice Ao200 y491.length co200) y491) ∧ Aside0 (Below w.heap.size w w'))
                  case atStart => exact ⟨(0), (by first | rfl | (simp; done) | (simp [*]; done)), H', ⟨Nat.le_refl _⟩, ⟨by (with_reducible repeat (first | apply Kd.N_alloc | apply Kd.N_drewN | apply Kd.N_drew)); exact Kd.N_mono HO493.out (fun _ hk => trivial)⟩, ⟨BB HB⟩⟩
                  case round =>
                   clear H'
                   (try clear c1); (try clear p1); (try clear q1); (try clear hx1); (try clear hf1); (try clear c2); (try clear p2); (try clear c3); (try clear p3); (try clear q3); (try clear hx3); (try clear c4); (try clear c4b0); (try clear p4); (try clear q4); (try clear hx4); (try clear c5); (try clear c5b0); (try clear c6); (try clear c6b0); (try clear p6); (try clear q6); (try clear c7); (try clear c8); (try clear q8); (try clear c9); (try clear c10); (try clear q10); (try clear c11); (try clear q11); (try clear c12); (try clear c12b0); (try clear c12b1); (try clear c13); (try clear c13b0); (try clear c13b1); (try clear c15); (try clear c16); (try clear c17); (try clear c17b0); (try clear c18); (try clear c18b0); (try clear p19); (try clear q19); (try clear hx19); (try clear hf19); (try clear c24); (try clear c24b0); (try clear c25); (try clear c25b0); (try clear c27); (try clear c31); (try clear c31b0); (try clear c31b1); (try clear c33); (try clear c35); (try clear c37); (try clear p38); (try clear q38); (try clear hx38); (try clear c39); (try clear c41); (try clear c42); (try clear c42b0); (try clear c42b1); (try clear c44); (try clear q44); (try clear c46); (try clear p46); (try clear q46); (try clear hx46); (try clear p64); (try clear c66); (try clear q66); (try clear c84); (try clear q84); (try clear c101); (try clear q101); (try clear c111); (try clear q111); (try clear c114); (try clear q114); (try clear c116); (try clear c159); (try clear c159b0); (try clear c160); (try clear c160b0); (try clear c161); (try clear c161b0); (try clear c163); (try clear c165); (try clear hx19_0); (try clear hx387_0); (try clear hx467_0); (try clear p1); (try clear p19); (try clear p2); (try clear p3); (try clear p38); (try clear p387); (try clear p467); (try clear p6); (try clear p64); (try clear q1); (try clear q10); (try clear q101); (try clear q11); (try clear q111); (try clear q114); (try clear q19); (try clear q3); (try clear q38); (try clear q387); (try clear q4); (try clear q44); (try clear q467); (try clear q6); (try clear q66); (try clear q8); (try clear q84)
                   obtain ⟨x133_6, rfl, HA, HK6, HO_131, HB⟩ := hrel
                   cases gk with
                   | zero => exact absurd HA.out (by simp [selvedgelaw20_OrderKnown.l5])
                   | succ k6 =>
                    have H := HA.out
                    clear HA
                    simp only [selvedgelaw20_OrderKnown.l5] at H
                    by_cases c201 : x133_6 < (y491.length : Int)
                    ·rw [if_pos c201] at H; have c201b0 : decide (x133_6 < (y491.length : Int)) = true := decide_eq_true c201; clear c201; by_cases c202 : 0 ≤ x133_6
                     ·rw [if_pos c202] at H; have c202b0 : decide (0 ≤ x133_6) = true := decide_eq_true c202; clear c202; by_cases c203 : x133_6 < (y491.length : Int)
                      ·rw [if_pos c203] at H; have c203b0 : decide (x133_6 < (y491.length : Int)) = true := decide_eq_true c203; clear c203; replace H := Option.bind_eq_some_iff.mp H; obtain ⟨t495, A2040, H⟩ := H
                       replace H : (if t495 = true then (selvedgelaw20_OrderKnown.l5 k6 y491 (y491.length : Int) (wrap64 (x133_6 + 1))) else (some false)) = some r := H
                       have A204 := Aside0.mk A2040; clear A2040; by_cases c205 : t495 = true
                       ·subst c205
                        have H1 : (selvedgelaw20_OrderKnown.l5 k6 y491 (y491.length : Int) (wrap64 (x133_6 + 1))) = some r := by rw [if_pos rfl] at H; exact H
                        clear H
                        have H := H1
                        clear H1
                        have H' := Aside0.mk H
                        clear H
                        have p494 : 0 ≤ (x133_6 : Int) := of_decide_eq_true (by first | (with_reducible assumption) | assumption)
                        have q494 : x133_6 < (y491.length : Int) := of_decide_eq_true (by first | (with_reducible assumption) | assumption)
                        obtain ⟨ad494, A494_0, c494_0, e494, hx494_0, hl494_0, hi494_0⟩ := at_L8 (Kd.N_reads' HO_131.out).2.2 x133_6 p494 q494
                        cases e494
                        obtain ⟨ce494, hce494, hMe494, hcc494⟩ := Kd.N_get HO_131.out [] x133_6 p494 (by first | exact q494 | exact of_decide_eq_true (by first | (with_reducible assumption) | assumption) | (have e_ := (Kd.N_reads' HO_131.out).1; omega))
                        obtain ⟨ua494_0, uc494_0, rfl, ul494_0, ge494_0⟩ := Kd.FK_slice_open hMe494
                        have hv494_0 := hcc494 0 _ rfl
                        rw [Nat.add_zero, show ((Kd.slice 3 (Kd.int .i64))).sz = 1 from rfl, Nat.mul_one] at hv494_0
                        replace hv494_0 := Option.some.inj (hv494_0.symm.trans hx494_0)
                        injection hv494_0 with hva_ hvn_ hvc_
                        rw [hva_] at ge494_0
                        rw [hvc_] at ul494_0
                        have HL494_0 := Aside0.mk (show Kd.V (Kd.int .i64) 3 _ w.heap.size _ _ (rd_L8 y491 x133_6) from Kd.V_mk ul494_0 ge494_0)
                        clear hva_ hvn_ hvc_ ge494_0 ul494_0; clear hcc494 hce494; have HR494_0 := Aside0.mk hi494_0; have HC494_0 := Aside0.mk hl494_0; clear hi494_0 hl494_0; replace p494 := eq_true p494; replace q494 := eq_true q494
                        go_wp2_with (first | ((with_reducible refine gate_callee (f := 8) rfl ?_); refine goesL_ (some 138) rfl rfl Tryd.func8 (by kernel_rfl) rfl #[.slice none 0 0, .slice A494_0 (rd_L8 y491 x133_6).length c494_0] rfl (by (try simp only [List.map_toArray, List.map_cons, List.map_nil]); first | done | rfl | (simp only [List.length_drop, List.length_take]; rfl)) ?_; (refine (selvedgelaw20_OrderShows.calls k6 _ _ ([] : List Int) _ _ (rd_L8 y491 x133_6) true _ ?side1 ?side2 ?side3 ?side4 A204.out).mono ?_); (case side1 => exact Kd.C_nil _ _); (case side2 => exact Nat.le_refl _); (case side3 => repeat (first | exact (by repeat (first | (with_reducible exact HR494_0.out) | (with_reducible refine Kd.C_alloc ?_ _) | (with_reducible refine Kd.C_drewN ?_ _) | (with_reducible refine Kd.C_drew ?_) | exact HR494_0.out)) | (with_reducible refine Kd.C_alloc ?_ _) | (with_reducible refine Kd.C_drewN ?_ _) | (with_reducible refine Kd.C_drew ?_))); (case side4 => exact HC494_0.out); rintro e w206 ⟨rfl, hb⟩; refine ⟨_, rfl, ?_⟩; have n0_ := Aside0.mk (Kd.N_below (by (with_reducible repeat (first | apply Kd.N_alloc | apply Kd.N_drewN | apply Kd.N_drew)); exact HO_131.out) hb); have n1_ := Aside0.mk (Kd.V_below (by (with_reducible repeat (first | apply Kd.V_alloc | apply Kd.V_drewN | apply Kd.V_drew)); exact HL494_0.out) hb); have n2_ := Aside0.mk (Kd.C_below (by repeat (first | (with_reducible exact HR494_0.out) | (with_reducible refine Kd.C_alloc ?_ _) | (with_reducible refine Kd.C_drewN ?_ _) | (with_reducible refine Kd.C_drew ?_) | exact HR494_0.out)) hb); have n3_ := Aside0.mk (below_step (BB HB) hb); clear HO_131; clear HL494_0; clear HR494_0; clear HB; have HO_131 := n0_; have HL494_0 := n1_; have HR494_0 := n2_; have HB := n3_; clear n0_ n1_ n2_ n3_; (try clear hb); (try clear hb2); (try clear hk); (try clear hi)))
                        go_roundg k6
                        case measure => have := HK1.out; have := HK2.out; have := HK3.out; have := HJ29.out; have := HK5.out; have := HK6.out; omega
                        case rel => exact ⟨(wrap64 (x133_6 + 1)), (by first | rfl | (simp; done) | (simp [*]; done)), H', ⟨by have := HK1.out; have := HK2.out; have := HK3.out; have := HJ29.out; have := HK5.out; have := HK6.out; omega⟩, ⟨by (with_reducible repeat (first | apply Kd.N_alloc | apply Kd.N_drewN | apply Kd.N_drew)); exact HO_131.out⟩, ⟨BB HB⟩⟩
                       ·replace c205 := Bool.eq_false_iff.mpr c205
                        subst c205
                        have H1 : (some false) = some r := by rw [if_neg (show ¬ (false = true) by decide)] at H; exact H
                        clear H
                        have H := H1
                        clear H1; obtain rfl := Option.some.inj H
                        have p494 : 0 ≤ (x133_6 : Int) := of_decide_eq_true (by first | (with_reducible assumption) | assumption)
                        have q494 : x133_6 < (y491.length : Int) := of_decide_eq_true (by first | (with_reducible assumption) | assumption)
                        obtain ⟨ad494, A494_0, c494_0, e494, hx494_0, hl494_0, hi494_0⟩ := at_L8 (Kd.N_reads' HO_131.out).2.2 x133_6 p494 q494
                        cases e494
                        obtain ⟨ce494, hce494, hMe494, hcc494⟩ := Kd.N_get HO_131.out [] x133_6 p494 (by first | exact q494 | exact of_decide_eq_true (by first | (with_reducible assumption) | assumption) | (have e_ := (Kd.N_reads' HO_131.out).1; omega))
                        obtain ⟨ua494_0, uc494_0, rfl, ul494_0, ge494_0⟩ := Kd.FK_slice_open hMe494
                        have hv494_0 := hcc494 0 _ rfl
                        rw [Nat.add_zero, show ((Kd.slice 3 (Kd.int .i64))).sz = 1 from rfl, Nat.mul_one] at hv494_0
                        replace hv494_0 := Option.some.inj (hv494_0.symm.trans hx494_0)
                        injection hv494_0 with hva_ hvn_ hvc_
                        rw [hva_] at ge494_0
                        rw [hvc_] at ul494_0
                        have HL494_0 := Aside0.mk (show Kd.V (Kd.int .i64) 3 _ w.heap.size _ _ (rd_L8 y491 x133_6) from Kd.V_mk ul494_0 ge494_0)
                        clear hva_ hvn_ hvc_ ge494_0 ul494_0; clear hcc494 hce494; have HR494_0 := Aside0.mk hi494_0; have HC494_0 := Aside0.mk hl494_0; clear hi494_0 hl494_0; replace p494 := eq_true p494; replace q494 := eq_true q494
                        go_wp2_with (first | ((with_reducible refine gate_callee (f := 8) rfl ?_); refine goesL_ (some 138) rfl rfl Tryd.func8 (by kernel_rfl) rfl #[.slice none 0 0, .slice A494_0 (rd_L8 y491 x133_6).length c494_0] rfl (by (try simp only [List.map_toArray, List.map_cons, List.map_nil]); first | done | rfl | (simp only [List.length_drop, List.length_take]; rfl)) ?_; (refine (selvedgelaw20_OrderShows.calls k6 _ _ ([] : List Int) _ _ (rd_L8 y491 x133_6) false _ ?side1 ?side2 ?side3 ?side4 A204.out).mono ?_); (case side1 => exact Kd.C_nil _ _); (case side2 => exact Nat.le_refl _); (case side3 => repeat (first | exact (by repeat (first | (with_reducible exact HR494_0.out) | (with_reducible refine Kd.C_alloc ?_ _) | (with_reducible refine Kd.C_drewN ?_ _) | (with_reducible refine Kd.C_drew ?_) | exact HR494_0.out)) | (with_reducible refine Kd.C_alloc ?_ _) | (with_reducible refine Kd.C_drewN ?_ _) | (with_reducible refine Kd.C_drew ?_))); (case side4 => exact HC494_0.out); rintro e w207 ⟨rfl, hb⟩; refine ⟨_, rfl, ?_⟩; have n0_ := Aside0.mk (Kd.N_below (by (with_reducible repeat (first | apply Kd.N_alloc | apply Kd.N_drewN | apply Kd.N_drew)); exact HO_131.out) hb); have n1_ := Aside0.mk (Kd.V_below (by (with_reducible repeat (first | apply Kd.V_alloc | apply Kd.V_drewN | apply Kd.V_drew)); exact HL494_0.out) hb); have n2_ := Aside0.mk (Kd.C_below (by repeat (first | (with_reducible exact HR494_0.out) | (with_reducible refine Kd.C_alloc ?_ _) | (with_reducible refine Kd.C_drewN ?_ _) | (with_reducible refine Kd.C_drew ?_) | exact HR494_0.out)) hb); have n3_ := Aside0.mk (below_step (BB HB) hb); clear HO_131; clear HL494_0; clear HR494_0; clear HB; have HO_131 := n0_; have HL494_0 := n1_; have HR494_0 := n2_; have HB := n3_; clear n0_ n1_ n2_ n3_; (try clear hb); (try clear hb2); (try clear hk); (try clear hi)))
                        go_ret
                        exact ⟨FF, BB HB⟩
                      ·rw [if_neg c203] at H
                       exact absurd H (by simp)
                     ·rw [if_neg c202] at H
                      exact absurd H (by simp)
                    ·rw [if_neg c201] at H; have c201b0 : decide (x133_6 < (y491.length : Int)) = false := decide_eq_false c201; clear c201
                     obtain ⟨y496, hy496⟩ : ∃ y_ : List Int, y_ = (([40, 41, 60, 91, 97, 1488, (-1), 1114112, 171, 8804] : List Int)) := ⟨_, rfl⟩
                     replace H : (selvedgelaw20_OrderKnown.l6 k6 y496 (y496.length : Int) 0) = some r := by first | (rw [hy496]; with_reducible exact H) | (have H2_ := (Option.bind_some _ _).symm.trans H; rw [hy496]; with_reducible exact H2_) | (have H2_ := (Option.bind_some _ _).symm.trans H; with_reducible exact H2_) | with_reducible exact H | (rw [hy496]; exact H) | exact H
                     have Ny496 := Aside0.mk hy496; clear hy496
                     have H' := Aside0.mk H
                     clear H
                     go_wp2_with (first | ((with_reducible refine gate_dst (N := 141) rfl ?_); (try (refine gate_guard (by rfl) ?_; dsimp only)); refine Kd.R_lit (Kd.int .i32) _ 21 ?hg (N := 141) ?hd (xs := ([40, 41, 60, 91, 97, 1488, (-1), 1114112, 171, 8804] : List Int)) (inner := [.int .i32 40, .int .i32 41, .int .i32 60, .int .i32 91, .int .i32 97, .int .i32 1488, .int .i32 (-1), .int .i32 1114112, .int .i32 171, .int .i32 8804]) (ok := fun _ => True) (okp := fun _ => True) ?hr ?hp (fun _ hk => hk) trivial (Below.refl _ _) (Nat.le_refl _) (by simp) ?_; (case hd => rfl); (case hg => rfl); (case hr => first | (go_simp; done) | (go_simp; rfl)); (case hp => exact (Reps.one (show Kd.M (Kd.int .i32) _ _ _ 40 [.int .i32 40] from rfl) (Reps.one (show Kd.M (Kd.int .i32) _ _ _ 41 [.int .i32 41] from rfl) (Reps.one (show Kd.M (Kd.int .i32) _ _ _ 60 [.int .i32 60] from rfl) (Reps.one (show Kd.M (Kd.int .i32) _ _ _ 91 [.int .i32 91] from rfl) (Reps.one (show Kd.M (Kd.int .i32) _ _ _ 97 [.int .i32 97] from rfl) (Reps.one (show Kd.M (Kd.int .i32) _ _ _ 1488 [.int .i32 1488] from rfl) (Reps.one (show Kd.M (Kd.int .i32) _ _ _ (-1) [.int .i32 (-1)] from rfl) (Reps.one (show Kd.M (Kd.int .i32) _ _ _ 1114112 [.int .i32 1114112] from rfl) (Reps.one (show Kd.M (Kd.int .i32) _ _ _ 171 [.int .i32 171] from rfl) (Reps.one (show Kd.M (Kd.int .i32) _ _ _ 8804 [.int .i32 8804] from rfl) (Reps.none _ _)))))))))))); intro v497 w208 ho209 hb hg_ hnew_; clear hg_ hnew_; (first | rw [← Ny496.out] at ho209 | (simp only [Int.reduceToNat] at ho209; rw [← Ny496.out] at ho209)); have n0_ := Aside0.mk (Kd.N_elder' (by (with_reducible repeat (first | apply Kd.N_alloc | apply Kd.N_drewN | apply Kd.N_drew)); exact HO_131.out) (Kd.R_base ho209) hb); have n1_ := Aside0.mk (Kd.R_lower ho209 (below_size (BB HB))); have n2_ := Aside0.mk (below_step (BB HB) hb); clear HO_131; clear HB; have HO_131 := n0_; have HO498 := n1_; have HB := n2_; clear n0_ n1_ n2_; clear hb ho209; obtain ⟨Ao210, co210, eo210⟩ := Kd.R_slice HO498.out; subst eo210))
                     go_loopg [143] k6 (fun kq v143 w' => ∃ (x143_7 : Int), v143 = .int .i64 x143_7 ∧ Aside0 (selvedgelaw20_OrderKnown.l6 kq y496 (y496.length : Int) x143_7 = some r) ∧ Aside0 (kq ≤ k6) ∧ Aside0 (Kd.R (Kd.int .i32) 21 w' w.heap.size (fun _ => True) (.slice Ao210 y496.length co210) y496) ∧ Aside0 (Below w.heap.size w w'))
                     case atStart => exact ⟨(0), (by first | rfl | (simp; done) | (simp [*]; done)), H', ⟨Nat.le_refl _⟩, ⟨RR HO498⟩, ⟨BB HB⟩⟩
                     case round =>
                      clear H'
                      (try clear c1); (try clear p1); (try clear q1); (try clear hx1); (try clear hf1); (try clear c2); (try clear p2); (try clear c3); (try clear p3); (try clear q3); (try clear hx3); (try clear c4); (try clear c4b0); (try clear p4); (try clear q4); (try clear hx4); (try clear c5); (try clear c5b0); (try clear c6); (try clear c6b0); (try clear p6); (try clear q6); (try clear c7); (try clear c8); (try clear q8); (try clear c9); (try clear c10); (try clear q10); (try clear c11); (try clear q11); (try clear c12); (try clear c12b0); (try clear c12b1); (try clear c13); (try clear c13b0); (try clear c13b1); (try clear c15); (try clear c16); (try clear c17); (try clear c17b0); (try clear c18); (try clear c18b0); (try clear p19); (try clear q19); (try clear hx19); (try clear hf19); (try clear c20); (try clear c24); (try clear c24b0); (try clear c25); (try clear c25b0); (try clear c27); (try clear c31); (try clear c31b0); (try clear c31b1); (try clear c33); (try clear c35); (try clear c37); (try clear p38); (try clear q38); (try clear hx38); (try clear c39); (try clear c41); (try clear c42); (try clear c42b0); (try clear c42b1); (try clear c44); (try clear q44); (try clear c46); (try clear p46); (try clear q46); (try clear hx46); (try clear c49); (try clear p49); (try clear q49); (try clear hx49); (try clear p64); (try clear c66); (try clear q66); (try clear c84); (try clear q84); (try clear c101); (try clear q101); (try clear c111); (try clear q111); (try clear c114); (try clear q114); (try clear c116); (try clear c159); (try clear c159b0); (try clear c160); (try clear c160b0); (try clear c161); (try clear c161b0); (try clear c163); (try clear c165); (try clear c201); (try clear c201b0); (try clear c202); (try clear c202b0); (try clear c203); (try clear c203b0); (try clear c205); (try clear hx19_0); (try clear hx387_0); (try clear hx467_0); (try clear hx494_0); (try clear p1); (try clear p19); (try clear p2); (try clear p3); (try clear p38); (try clear p387); (try clear p4); (try clear p46); (try clear p467); (try clear p494); (try clear p6); (try clear p64); (try clear q1); (try clear q10); (try clear q101); (try clear q11); (try clear q111); (try clear q114); (try clear q19); (try clear q3); (try clear q38); (try clear q387); (try clear q4); (try clear q44); (try clear q46); (try clear q467); (try clear q494); (try clear q6); (try clear q66); (try clear q8); (try clear q84)
                      obtain ⟨x143_7, rfl, HA, HK7, HO_141, HB⟩ := hrel
                      cases gk with
                      | zero => exact absurd HA.out (by simp [selvedgelaw20_OrderKnown.l6])
                      | succ k7 =>
                       have H := HA.out
                       clear HA
                       simp only [selvedgelaw20_OrderKnown.l6] at H
                       by_cases c211 : x143_7 < (y496.length : Int)
                       ·rw [if_pos c211] at H; have c211b0 : decide (x143_7 < (y496.length : Int)) = true := decide_eq_true c211; clear c211; by_cases c212 : 0 ≤ x143_7
                        ·rw [if_pos c212] at H; have c212b0 : decide (0 ≤ x143_7) = true := decide_eq_true c212; clear c212; by_cases c213 : x143_7 < (y496.length : Int)
                         ·rw [if_pos c213] at H; have c213b0 : decide (x143_7 < (y496.length : Int)) = true := decide_eq_true c213; clear c213; replace H := Option.bind_eq_some_iff.mp H; obtain ⟨t508, A2140, H⟩ := H
                          replace H : (if t508 = true then ((selvedgelaw20_OrderMirrors.f k7 (rd y496 x143_7) 1).bind fun t509 => (if t509 = true then ((selvedgelaw20_OrderMirrors.f k7 (rd y496 x143_7) 255).bind fun t510 => (if t510 = true then (selvedgelaw20_OrderKnown.l6 k7 y496 (y496.length : Int) (wrap64 (x143_7 + 1))) else (some false))) else (some false))) else (some false)) = some r := H
                          have A214 := Aside0.mk A2140; clear A2140; by_cases c215 : t508 = true
                          ·subst c215
                           have H1 : ((selvedgelaw20_OrderMirrors.f k7 (rd y496 x143_7) 1).bind fun t509 => (if t509 = true then ((selvedgelaw20_OrderMirrors.f k7 (rd y496 x143_7) 255).bind fun t510 => (if t510 = true then (selvedgelaw20_OrderKnown.l6 k7 y496 (y496.length : Int) (wrap64 (x143_7 + 1))) else (some false))) else (some false))) = some r := by rw [if_pos rfl] at H; exact H
                           clear H
                           have H := H1
                           clear H1; replace H := Option.bind_eq_some_iff.mp H; obtain ⟨t509, A2160, H⟩ := H
                           replace H : (if t509 = true then ((selvedgelaw20_OrderMirrors.f k7 (rd y496 x143_7) 255).bind fun t510 => (if t510 = true then (selvedgelaw20_OrderKnown.l6 k7 y496 (y496.length : Int) (wrap64 (x143_7 + 1))) else (some false))) else (some false)) = some r := H
                           have A216 := Aside0.mk A2160; clear A2160; by_cases c217 : t509 = true
                           ·subst c217
                            have H1 : ((selvedgelaw20_OrderMirrors.f k7 (rd y496 x143_7) 255).bind fun t510 => (if t510 = true then (selvedgelaw20_OrderKnown.l6 k7 y496 (y496.length : Int) (wrap64 (x143_7 + 1))) else (some false))) = some r := by rw [if_pos rfl] at H; exact H
                            clear H
                            have H := H1
                            clear H1; replace H := Option.bind_eq_some_iff.mp H; obtain ⟨t510, A2180, H⟩ := H
                            replace H : (if t510 = true then (selvedgelaw20_OrderKnown.l6 k7 y496 (y496.length : Int) (wrap64 (x143_7 + 1))) else (some false)) = some r := H
                            have A218 := Aside0.mk A2180; clear A2180; by_cases c219 : t510 = true
                            ·subst c219
                             have H1 : (selvedgelaw20_OrderKnown.l6 k7 y496 (y496.length : Int) (wrap64 (x143_7 + 1))) = some r := by rw [if_pos rfl] at H; exact H
                             clear H
                             have H := H1
                             clear H1
                             have H' := Aside0.mk H
                             clear H
                             have p507 : 0 ≤ (x143_7 : Int) := of_decide_eq_true (by first | (with_reducible assumption) | assumption)
                             have q507 : x143_7 < (y496.length : Int) := of_decide_eq_true (by first | (with_reducible assumption) | assumption)
                             obtain ⟨ad507, e507, hx507_0⟩ := Kd.at_int (Kd.R_reads' HO_141.out).2.2 x143_7 p507 q507
                             cases e507
                             replace p507 := eq_true p507; replace q507 := eq_true q507
                             go_wp2_with (first | ((with_reducible refine gate_callee (f := 5) rfl ?_); refine goesL_ (some 148) rfl rfl Tryd.func5 (by kernel_rfl) rfl #[.int .i32 (rd y496 x143_7), .int .u8 0] rfl (by (try simp only [List.map_toArray, List.map_cons, List.map_nil]); first | done | rfl | (simp only [List.length_drop, List.length_take]; rfl)) ?_; (with_reducible refine (selvedgelaw20_OrderMirrors.calls k7 (rd y496 x143_7) 0 true _ A214.out).mono ?_); rintro e w220 ⟨rfl, hb⟩; refine ⟨_, rfl, ?_⟩; have n0_ := Aside0.mk (Kd.R_below (RR HO_141) hb); have n1_ := Aside0.mk (below_step (BB HB) hb); clear HO_141; clear HB; have HO_141 := n0_; have HB := n1_; clear n0_ n1_; (try clear hb); (try clear hb2); (try clear hk); (try clear hi)) | (go_at_call 5; (with_reducible refine (selvedgelaw20_OrderMirrors.calls k7 (rd y496 x143_7) 1 true _ A216.out).mono ?_); rintro e w221 ⟨rfl, hb⟩; have n0_ := Aside0.mk (Kd.R_below (RR HO_141) hb); have n1_ := Aside0.mk (below_step (BB HB) hb); clear HO_141; clear HB; have HO_141 := n0_; have HB := n1_; clear n0_ n1_; (try clear hb); (try clear hb2); (try clear hk); (try clear hi)) | (go_at_call 5; (with_reducible refine (selvedgelaw20_OrderMirrors.calls k7 (rd y496 x143_7) 255 true _ A218.out).mono ?_); rintro e w222 ⟨rfl, hb⟩; have n0_ := Aside0.mk (Kd.R_below (RR HO_141) hb); have n1_ := Aside0.mk (below_step (BB HB) hb); clear HO_141; clear HB; have HO_141 := n0_; have HB := n1_; clear n0_ n1_; (try clear hb); (try clear hb2); (try clear hk); (try clear hi)))
                             go_roundg k7
                             case measure => have := HK1.out; have := HK2.out; have := HK3.out; have := HJ29.out; have := HK5.out; have := HK6.out; have := HK7.out; omega
                             case rel => exact ⟨(wrap64 (x143_7 + 1)), (by first | rfl | (simp; done) | (simp [*]; done)), H', ⟨by have := HK1.out; have := HK2.out; have := HK3.out; have := HJ29.out; have := HK5.out; have := HK6.out; have := HK7.out; omega⟩, ⟨RR HO_141⟩, ⟨BB HB⟩⟩
                            ·replace c219 := Bool.eq_false_iff.mpr c219
                             subst c219
                             have H1 : (some false) = some r := by rw [if_neg (show ¬ (false = true) by decide)] at H; exact H
                             clear H
                             have H := H1
                             clear H1; obtain rfl := Option.some.inj H
                             have p507 : 0 ≤ (x143_7 : Int) := of_decide_eq_true (by first | (with_reducible assumption) | assumption)
                             have q507 : x143_7 < (y496.length : Int) := of_decide_eq_true (by first | (with_reducible assumption) | assumption)
                             obtain ⟨ad507, e507, hx507_0⟩ := Kd.at_int (Kd.R_reads' HO_141.out).2.2 x143_7 p507 q507
                             cases e507
                             replace p507 := eq_true p507; replace q507 := eq_true q507
                             go_wp2_with (first | ((with_reducible refine gate_callee (f := 5) rfl ?_); refine goesL_ (some 148) rfl rfl Tryd.func5 (by kernel_rfl) rfl #[.int .i32 (rd y496 x143_7), .int .u8 0] rfl (by (try simp only [List.map_toArray, List.map_cons, List.map_nil]); first | done | rfl | (simp only [List.length_drop, List.length_take]; rfl)) ?_; (with_reducible refine (selvedgelaw20_OrderMirrors.calls k7 (rd y496 x143_7) 0 true _ A214.out).mono ?_); rintro e w223 ⟨rfl, hb⟩; refine ⟨_, rfl, ?_⟩; have n0_ := Aside0.mk (Kd.R_below (RR HO_141) hb); have n1_ := Aside0.mk (below_step (BB HB) hb); clear HO_141; clear HB; have HO_141 := n0_; have HB := n1_; clear n0_ n1_; (try clear hb); (try clear hb2); (try clear hk); (try clear hi)) | (go_at_call 5; (with_reducible refine (selvedgelaw20_OrderMirrors.calls k7 (rd y496 x143_7) 1 true _ A216.out).mono ?_); rintro e w224 ⟨rfl, hb⟩; have n0_ := Aside0.mk (Kd.R_below (RR HO_141) hb); have n1_ := Aside0.mk (below_step (BB HB) hb); clear HO_141; clear HB; have HO_141 := n0_; have HB := n1_; clear n0_ n1_; (try clear hb); (try clear hb2); (try clear hk); (try clear hi)) | (go_at_call 5; (with_reducible refine (selvedgelaw20_OrderMirrors.calls k7 (rd y496 x143_7) 255 false _ A218.out).mono ?_); rintro e w225 ⟨rfl, hb⟩; have n0_ := Aside0.mk (Kd.R_below (RR HO_141) hb); have n1_ := Aside0.mk (below_step (BB HB) hb); clear HO_141; clear HB; have HO_141 := n0_; have HB := n1_; clear n0_ n1_; (try clear hb); (try clear hb2); (try clear hk); (try clear hi)))
                             go_ret
                             exact ⟨FF, BB HB⟩
                           ·replace c217 := Bool.eq_false_iff.mpr c217
                            subst c217
                            have H1 : (some false) = some r := by rw [if_neg (show ¬ (false = true) by decide)] at H; exact H
                            clear H
                            have H := H1
                            clear H1; obtain rfl := Option.some.inj H
                            have p507 : 0 ≤ (x143_7 : Int) := of_decide_eq_true (by first | (with_reducible assumption) | assumption)
                            have q507 : x143_7 < (y496.length : Int) := of_decide_eq_true (by first | (with_reducible assumption) | assumption)
                            obtain ⟨ad507, e507, hx507_0⟩ := Kd.at_int (Kd.R_reads' HO_141.out).2.2 x143_7 p507 q507
                            cases e507
                            replace p507 := eq_true p507; replace q507 := eq_true q507
                            go_wp2_with (first | ((with_reducible refine gate_callee (f := 5) rfl ?_); refine goesL_ (some 148) rfl rfl Tryd.func5 (by kernel_rfl) rfl #[.int .i32 (rd y496 x143_7), .int .u8 0] rfl (by (try simp only [List.map_toArray, List.map_cons, List.map_nil]); first | done | rfl | (simp only [List.length_drop, List.length_take]; rfl)) ?_; (with_reducible refine (selvedgelaw20_OrderMirrors.calls k7 (rd y496 x143_7) 0 true _ A214.out).mono ?_); rintro e w226 ⟨rfl, hb⟩; refine ⟨_, rfl, ?_⟩; have n0_ := Aside0.mk (Kd.R_below (RR HO_141) hb); have n1_ := Aside0.mk (below_step (BB HB) hb); clear HO_141; clear HB; have HO_141 := n0_; have HB := n1_; clear n0_ n1_; (try clear hb); (try clear hb2); (try clear hk); (try clear hi)) | (go_at_call 5; (with_reducible refine (selvedgelaw20_OrderMirrors.calls k7 (rd y496 x143_7) 1 false _ A216.out).mono ?_); rintro e w227 ⟨rfl, hb⟩; have n0_ := Aside0.mk (Kd.R_below (RR HO_141) hb); have n1_ := Aside0.mk (below_step (BB HB) hb); clear HO_141; clear HB; have HO_141 := n0_; have HB := n1_; clear n0_ n1_; (try clear hb); (try clear hb2); (try clear hk); (try clear hi)))
                            go_ret
                            exact ⟨FF, BB HB⟩
                          ·replace c215 := Bool.eq_false_iff.mpr c215
                           subst c215
                           have H1 : (some false) = some r := by rw [if_neg (show ¬ (false = true) by decide)] at H; exact H
                           clear H
                           have H := H1
                           clear H1; obtain rfl := Option.some.inj H
                           have p507 : 0 ≤ (x143_7 : Int) := of_decide_eq_true (by first | (with_reducible assumption) | assumption)
                           have q507 : x143_7 < (y496.length : Int) := of_decide_eq_true (by first | (with_reducible assumption) | assumption)
                           obtain ⟨ad507, e507, hx507_0⟩ := Kd.at_int (Kd.R_reads' HO_141.out).2.2 x143_7 p507 q507
                           cases e507
                           replace p507 := eq_true p507; replace q507 := eq_true q507
                           go_wp2_with (first | ((with_reducible refine gate_callee (f := 5) rfl ?_); refine goesL_ (some 148) rfl rfl Tryd.func5 (by kernel_rfl) rfl #[.int .i32 (rd y496 x143_7), .int .u8 0] rfl (by (try simp only [List.map_toArray, List.map_cons, List.map_nil]); first | done | rfl | (simp only [List.length_drop, List.length_take]; rfl)) ?_; (with_reducible refine (selvedgelaw20_OrderMirrors.calls k7 (rd y496 x143_7) 0 false _ A214.out).mono ?_); rintro e w228 ⟨rfl, hb⟩; refine ⟨_, rfl, ?_⟩; have n0_ := Aside0.mk (Kd.R_below (RR HO_141) hb); have n1_ := Aside0.mk (below_step (BB HB) hb); clear HO_141; clear HB; have HO_141 := n0_; have HB := n1_; clear n0_ n1_; (try clear hb); (try clear hb2); (try clear hk); (try clear hi)))
                           go_ret
                           exact ⟨FF, BB HB⟩
                         ·rw [if_neg c213] at H
                          exact absurd H (by simp)
                        ·rw [if_neg c212] at H
                         exact absurd H (by simp)
                       ·rw [if_neg c211] at H; have c211b0 : decide (x143_7 < (y496.length : Int)) = false := decide_eq_false c211; clear c211; by_cases c229 : 65537 ≤ 281474976710656
                        ·rw [if_pos c229] at H
                         have c229b0 := eq_true c229
                         have c229b1 : decide (65537 ≤ 281474976710656) = true := decide_eq_true c229; clear c229
                         obtain ⟨y499, hy499⟩ : ∃ y_ : List Int, y_ = (List.replicate 65537 0) := ⟨_, rfl⟩
                         replace H : (if 65537 ≤ 35184372088832 then ((selvedgelaw20_OrderShows.f k7 y499 (List.replicate 65537 0)).bind fun t505 => (if t505 = true then ((selvedgelaw20_works.f k7).bind fun t506 => (some t506)) else (some false))) else (none)) = some r := by first | (rw [hy499]; with_reducible exact H) | (have H2_ := (Option.bind_some _ _).symm.trans H; rw [hy499]; with_reducible exact H2_) | (have H2_ := (Option.bind_some _ _).symm.trans H; with_reducible exact H2_) | with_reducible exact H | (rw [hy499]; exact H) | exact H
                         have Ny499 := Aside0.mk hy499; clear hy499; by_cases c230 : 65537 ≤ 35184372088832
                         ·rw [if_pos c230] at H
                          have c230b0 := eq_true c230
                          have c230b1 : decide (65537 ≤ 35184372088832) = true := decide_eq_true c230; clear c230
                          obtain ⟨y502, hy502⟩ : ∃ y_ : List Int, y_ = (List.replicate 65537 0) := ⟨_, rfl⟩
                          replace H : ((selvedgelaw20_OrderShows.f k7 y499 y502).bind fun t505 => (if t505 = true then ((selvedgelaw20_works.f k7).bind fun t506 => (some t506)) else (some false))) = some r := by first | (rw [hy502]; with_reducible exact H) | (have H2_ := (Option.bind_some _ _).symm.trans H; rw [hy502]; with_reducible exact H2_) | (have H2_ := (Option.bind_some _ _).symm.trans H; with_reducible exact H2_) | with_reducible exact H | (rw [hy502]; exact H) | exact H
                          have Ny502 := Aside0.mk hy502; clear hy502; replace H := Option.bind_eq_some_iff.mp H; obtain ⟨t505, A2310, H⟩ := H
                          replace H : (if t505 = true then ((selvedgelaw20_works.f k7).bind fun t506 => (some t506)) else (some false)) = some r := H
                          have A231 := Aside0.mk A2310; clear A2310; by_cases c232 : t505 = true
                          ·subst c232
                           have H1 : ((selvedgelaw20_works.f k7).bind fun t506 => (some t506)) = some r := by rw [if_pos rfl] at H; exact H
                           clear H
                           have H := H1
                           clear H1; replace H := Option.bind_eq_some_iff.mp H; obtain ⟨t506, A2330, H⟩ := H
                           replace H : (some t506) = some r := H
                           have A233 := Aside0.mk A2330; clear A2330; obtain rfl := Option.some.inj H
                           try go_wp2
                           have n0_ := Aside0.mk (Kd.R_drew HO_141.out)
                           have n1_ := Aside0.mk (below_drew1 HB.out)
                           clear HO_141; clear HB
                           have HO_141 := n0_
                           have HB := n1_
                           clear n0_ n1_
                           refine start_ (n := 7) (S := fun w' => True) (ds := []) #[false, false, false, false, false, false, false] (by kernel_rfl) rfl rfl trivial (fun hHeld => ?_)
                           generalize wr.drew = w234 at HO_141 HB hHeld ⊢
                           refine join_ (σ := Value × Value) 5 #[true, true, false, false, false, false, false] (fun s_ => [(161, s_.1), (162, s_.2)]) (fun s_ w' => (Kd.R (Kd.int .u8) 5 w' w.heap.size (fun _ => True) s_.1 y499) ∧ (Kd.R (Kd.int .i64) 3 w' w.heap.size (fun _ => True) s_.2 y502) ∧ (Kd.R (Kd.int .i32) 21 w' w.heap.size (fun _ => True) (.slice Ao210 y496.length co210) y496) ∧ (Below w.heap.size w w')) ?_ ?_
                           rotate_left
                           ·intro hCont
                            refine two_ (i := 0) (j := 1) (Ni := some 161) (Nj := some 162) #[true, false, false, false, false, false, false] #[false, true, false, false, false, false, false] rfl rfl rfl rfl (by kernel_rfl) (by decide) (by decide) (fun K hK => ?_) (fun K hK => ?_)
                            ·skip
                             refine Kd.R_make_step (Kd.int .u8) _ 5 (by rfl) (N := 161) rfl 23 _ _ rfl 65537 rfl rfl Tryd.underlying23 (.int .u8 0) 1 info5 rfl (by decide) (by omega) 0 (ok := fun _ => True) (okp := fun _ => True) rfl (fun _ hk => hk) trivial (by omega) (by omega) (Below.refl _ _) (Nat.le_refl _) ?_
                             intro v500 w235 ho236 hb hg_ hnew_
                             clear hg_ hnew_
                             (first | rw [← Ny499.out] at ho236 | (simp only [Int.reduceToNat] at ho236; rw [← Ny499.out] at ho236))
                             have n0_ := Aside0.mk (Kd.R_below (RR HO_141) hb)
                             have n1_ := Aside0.mk (Kd.R_lower ho236 (below_size (BB HB)))
                             have n2_ := Aside0.mk (below_step (BB HB) hb)
                             clear HO_141; clear HB
                             have HO_141 := n0_
                             have HO501 := n1_
                             have HB := n2_
                             clear n0_ n1_ n2_; clear hb ho236
                             refine hK.out _ _ trivial (fun hHeld => ?_)
                             clear hK K
                             refine norm_ (a' := ?_) ?_ ?_
                             rotate_left
                             ·show Act.put _ (some 161) _ = _
                              simp only [Act.put, List.setIfInBounds_toArray, List.set_cons_zero, List.set_cons_succ, i64_w, i32_w]
                              rfl
                             refine one_ (i := 1) (N := some 162) #[true, true, false, false, false, false, false] rfl rfl (by kernel_rfl) (by decide) (fun K hK => ?_)
                             refine Kd.R_make_step (Kd.int .i64) _ 3 (by rfl) (N := 162) rfl 30 _ _ rfl 65537 rfl rfl Tryd.underlying30 (.int .i64 0) 8 info3 rfl (by decide) (by omega) 0 (ok := fun _ => True) (okp := fun _ => True) rfl (fun _ hk => hk) trivial (by omega) (by omega) (Below.refl _ _) (Nat.le_refl _) ?_
                             intro v503 w237 ho238 hb hg_ hnew_
                             clear hg_ hnew_
                             (first | rw [← Ny502.out] at ho238 | (simp only [Int.reduceToNat] at ho238; rw [← Ny502.out] at ho238))
                             have n0_ := Aside0.mk (Kd.R_below (RR HO_141) hb)
                             have n1_ := Aside0.mk (Kd.R_below (RR HO501) hb)
                             have n2_ := Aside0.mk (Kd.R_lower ho238 (below_size (BB HB)))
                             have n3_ := Aside0.mk (below_step (BB HB) hb)
                             clear HO_141; clear HO501; clear HB
                             have HO_141 := n0_
                             have HO501 := n1_
                             have HO504 := n2_
                             have HB := n3_
                             clear n0_ n1_ n2_ n3_; clear hb ho238
                             refine hK.out _ _ trivial (fun hHeld => ?_)
                             clear hK K
                             refine norm_ (a' := ?_) ?_ ?_
                             rotate_left
                             ·show Act.put _ (some 162) _ = _
                              simp only [Act.put, List.setIfInBounds_toArray, List.set_cons_zero, List.set_cons_succ, i64_w, i32_w]
                              rfl
                             exact norm_ (by simp only [putAll, Act.put, List.setIfInBounds_toArray, List.set_cons_zero, List.set_cons_succ]) (hCont (v500, v503) _ ⟨(RR HO501), (RR HO504), (RR HO_141), (BB HB)⟩)
                            ·skip
                             refine Kd.R_make_step (Kd.int .i64) _ 3 (by rfl) (N := 162) rfl 30 _ _ rfl 65537 rfl rfl Tryd.underlying30 (.int .i64 0) 8 info3 rfl (by decide) (by omega) 0 (ok := fun _ => True) (okp := fun _ => True) rfl (fun _ hk => hk) trivial (by omega) (by omega) (Below.refl _ _) (Nat.le_refl _) ?_
                             intro v503 w235 ho236 hb hg_ hnew_
                             clear hg_ hnew_
                             (first | rw [← Ny502.out] at ho236 | (simp only [Int.reduceToNat] at ho236; rw [← Ny502.out] at ho236))
                             have n0_ := Aside0.mk (Kd.R_below (RR HO_141) hb)
                             have n1_ := Aside0.mk (Kd.R_lower ho236 (below_size (BB HB)))
                             have n2_ := Aside0.mk (below_step (BB HB) hb)
                             clear HO_141; clear HB
                             have HO_141 := n0_
                             have HO504 := n1_
                             have HB := n2_
                             clear n0_ n1_ n2_; clear hb ho236
                             refine hK.out _ _ trivial (fun hHeld => ?_)
                             clear hK K
                             refine norm_ (a' := ?_) ?_ ?_
                             rotate_left
                             ·show Act.put _ (some 162) _ = _
                              simp only [Act.put, List.setIfInBounds_toArray, List.set_cons_zero, List.set_cons_succ, i64_w, i32_w]
                              rfl
                             refine one_ (i := 0) (N := some 161) #[true, true, false, false, false, false, false] rfl rfl (by kernel_rfl) (by decide) (fun K hK => ?_)
                             refine Kd.R_make_step (Kd.int .u8) _ 5 (by rfl) (N := 161) rfl 23 _ _ rfl 65537 rfl rfl Tryd.underlying23 (.int .u8 0) 1 info5 rfl (by decide) (by omega) 0 (ok := fun _ => True) (okp := fun _ => True) rfl (fun _ hk => hk) trivial (by omega) (by omega) (Below.refl _ _) (Nat.le_refl _) ?_
                             intro v500 w237 ho238 hb hg_ hnew_
                             clear hg_ hnew_
                             (first | rw [← Ny499.out] at ho238 | (simp only [Int.reduceToNat] at ho238; rw [← Ny499.out] at ho238))
                             have n0_ := Aside0.mk (Kd.R_below (RR HO_141) hb)
                             have n1_ := Aside0.mk (Kd.R_below (RR HO504) hb)
                             have n2_ := Aside0.mk (Kd.R_lower ho238 (below_size (BB HB)))
                             have n3_ := Aside0.mk (below_step (BB HB) hb)
                             clear HO_141; clear HO504; clear HB
                             have HO_141 := n0_
                             have HO504 := n1_
                             have HO501 := n2_
                             have HB := n3_
                             clear n0_ n1_ n2_ n3_; clear hb ho238
                             refine hK.out _ _ trivial (fun hHeld => ?_)
                             clear hK K
                             refine norm_ (a' := ?_) ?_ ?_
                             rotate_left
                             ·show Act.put _ (some 161) _ = _
                              simp only [Act.put, List.setIfInBounds_toArray, List.set_cons_zero, List.set_cons_succ, i64_w, i32_w]
                              rfl
                             exact norm_ (by simp only [putAll, Act.put, List.setIfInBounds_toArray, List.set_cons_zero, List.set_cons_succ]) (hCont (v500, v503) _ ⟨(RR HO501), (RR HO504), (RR HO_141), (BB HB)⟩)
                           rintro ⟨v500, v503⟩ w239 ⟨h0_, h1_, h2_, h3_⟩
                           have n0_ : Aside0 (Kd.R (Kd.int .u8) 5 w239 w.heap.size (fun _ => True) v500 y499) := ⟨h0_⟩
                           have n1_ : Aside0 (Kd.R (Kd.int .i64) 3 w239 w.heap.size (fun _ => True) v503 y502) := ⟨h1_⟩
                           have n2_ : Aside0 (Kd.R (Kd.int .i32) 21 w239 w.heap.size (fun _ => True) (.slice Ao210 y496.length co210) y496) := ⟨h2_⟩
                           have n3_ : Aside0 (Below w.heap.size w w239) := ⟨h3_⟩
                           clear HO_141; clear HB; clear h0_ h1_ h2_ h3_
                           have HO501 := n0_
                           have HO504 := n1_
                           have HO_141 := n2_
                           have HB := n3_
                           clear n0_ n1_ n2_ n3_
                           have hHeld := trivial
                           obtain ⟨Ao240, co240, eo240⟩ := Kd.R_slice HO501.out
                           (first | subst eo240 | (injection eo240 with f1_ f2_ f3_; have f4_ := f1_.symm; have f5_ := f3_.symm; clear f1_ f2_ f3_; subst f4_; subst f5_))
                           obtain ⟨Ao241, co241, eo241⟩ := Kd.R_slice HO504.out
                           (first | subst eo241 | (injection eo241 with f1_ f2_ f3_; have f4_ := f1_.symm; have f5_ := f3_.symm; clear f1_ f2_ f3_; subst f4_; subst f5_))
                           refine norm_ (a' := ?_) ?_ ?_
                           rotate_left
                           ·simp only [putAll, Act.put, List.setIfInBounds_toArray, List.set_cons_zero, List.set_cons_succ]
                            rfl
                           refine one_ (i := 2) (N := some 163) #[true, true, true, false, false, false, false] rfl rfl (by kernel_rfl) (by decide) (fun K hK => ?_)
                           refine goes_ Tryd.func8 (by kernel_rfl) rfl #[.slice Ao240 y499.length co240, .slice Ao241 y502.length co241] (by rfl) rfl rfl (by (try simp only [List.map_toArray, List.map_cons, List.map_nil]); first | done | rfl | (simp only [List.length_drop, List.length_take]; rfl)) ?_
                           with_reducible refine (selvedgelaw20_OrderShows.calls k7 _ _ y499 _ _ y502 true _ ?side1 ?side2 ?side3 ?side4 A231.out).mono ?_
                           (case side1 => repeat (first | exact (Kd.R_reads' HO501.out).2.2 | (with_reducible refine Kd.C_alloc ?_ _) | (with_reducible refine Kd.C_drewN ?_ _) | (with_reducible refine Kd.C_drew ?_)))
                           (case side2 => exact (Kd.R_reads' HO501.out).2.1)
                           (case side3 => repeat (first | exact (Kd.R_reads' HO504.out).2.2 | (with_reducible refine Kd.C_alloc ?_ _) | (with_reducible refine Kd.C_drewN ?_ _) | (with_reducible refine Kd.C_drew ?_)))
                           (case side4 => exact (Kd.R_reads' HO504.out).2.1)
                           rintro e w242 ⟨rfl, hb⟩
                           refine ⟨_, rfl, ?_⟩
                           have n0_ := Aside0.mk (Kd.R_below (RR HO_141) hb)
                           have n1_ := Aside0.mk (Kd.R_below (RR HO501) hb)
                           have n2_ := Aside0.mk (Kd.R_below (RR HO504) hb)
                           have n3_ := Aside0.mk (below_step (BB HB) hb)
                           clear HO_141; clear HO501; clear HO504; clear HB
                           have HO_141 := n0_
                           have HO501 := n1_
                           have HO504 := n2_
                           have HB := n3_
                           clear n0_ n1_ n2_ n3_; (try clear hb); (try clear hb2); (try clear hk); (try clear hi)
                           refine hK.out _ _ trivial (fun hHeld => ?_)
                           clear hK K
                           refine norm_ (a' := ?_) ?_ ?_
                           rotate_left
                           ·show Act.put _ (some 163) _ = _
                            simp only [Act.put, List.setIfInBounds_toArray, List.set_cons_zero, List.set_cons_succ, i64_w, i32_w]
                            rfl
                           refine pure_ (i := 3) (N := some 164) (v := ?_) (a' := ?_) #[true, true, true, true, false, false, false] rfl rfl (by kernel_rfl) (fun _ _ _ h => h) (Or.inl ⟨by rfl, ?_⟩) ?_ ?_
                           rotate_left
                           ·intro w'
                            go_simp
                            with_reducible rfl
                           rotate_left
                           ·simp only [Act.put, List.setIfInBounds_toArray, List.set_cons_zero, List.set_cons_succ, i64_w, i32_w]
                            rfl
                           refine one_ (i := 4) (N := some 165) #[true, true, true, true, true, false, false] rfl rfl (by kernel_rfl) (by decide) (fun K hK => ?_)
                           refine goes_ Tryd.func11 (by kernel_rfl) rfl #[] (by rfl) rfl rfl (by (try simp only [List.map_toArray, List.map_cons, List.map_nil]); first | done | rfl | (simp only [List.length_drop, List.length_take]; rfl)) ?_
                           with_reducible refine (selvedgelaw20_works.calls k7  t506 _ A233.out).mono ?_
                           rintro e w243 ⟨rfl, hb⟩
                           refine ⟨_, rfl, ?_⟩
                           have n0_ := Aside0.mk (Kd.R_below (RR HO_141) hb)
                           have n1_ := Aside0.mk (Kd.R_below (RR HO501) hb)
                           have n2_ := Aside0.mk (Kd.R_below (RR HO504) hb)
                           have n3_ := Aside0.mk (below_step (BB HB) hb)
                           clear HO_141; clear HO501; clear HO504; clear HB
                           have HO_141 := n0_
                           have HO501 := n1_
                           have HO504 := n2_
                           have HB := n3_
                           clear n0_ n1_ n2_ n3_; (try clear hb); (try clear hb2); (try clear hk); (try clear hi)
                           refine hK.out _ _ trivial (fun hHeld => ?_)
                           clear hK K
                           refine norm_ (a' := ?_) ?_ ?_
                           rotate_left
                           ·show Act.put _ (some 165) _ = _
                            simp only [Act.put, List.setIfInBounds_toArray, List.set_cons_zero, List.set_cons_succ, i64_w, i32_w]
                            rfl
                           refine pure_ (i := 5) (N := some 166) (v := ?_) (a' := ?_) #[true, true, true, true, true, true, false] rfl rfl (by kernel_rfl) (fun _ _ _ h => h) (Or.inl ⟨by rfl, ?_⟩) ?_ ?_
                           rotate_left
                           ·intro w'
                            go_simp
                            with_reducible rfl
                           rotate_left
                           ·simp only [Act.put, List.setIfInBounds_toArray, List.set_cons_zero, List.set_cons_succ, i64_w, i32_w]
                            rfl
                           refine pure_ (i := 6) (N := some 0) (v := ?_) (a' := ?_) #[true, true, true, true, true, true, true] rfl rfl (by kernel_rfl) (fun _ _ _ h => h) (Or.inl ⟨by rfl, ?_⟩) ?_ ?_
                           rotate_left
                           ·intro w'
                            go_simp
                            with_reducible rfl
                           rotate_left
                           ·simp only [Act.put, List.setIfInBounds_toArray, List.set_cons_zero, List.set_cons_succ, i64_w, i32_w]
                            rfl
                           refine done_ (by kernel_rfl) ?_
                           try go_wp2
                           go_ret
                           exact ⟨FF, BB HB⟩
                          ·replace c232 := Bool.eq_false_iff.mpr c232
                           subst c232
                           have H1 : (some false) = some r := by rw [if_neg (show ¬ (false = true) by decide)] at H; exact H
                           clear H
                           have H := H1
                           clear H1; obtain rfl := Option.some.inj H
                           try go_wp2
                           have n0_ := Aside0.mk (Kd.R_drew HO_141.out)
                           have n1_ := Aside0.mk (below_drew1 HB.out)
                           clear HO_141; clear HB
                           have HO_141 := n0_
                           have HB := n1_
                           clear n0_ n1_
                           refine start_ (n := 7) (S := fun w' => True) (ds := []) #[false, false, false, false, false, false, false] (by kernel_rfl) rfl rfl trivial (fun hHeld => ?_)
                           generalize wr.drew = w244 at HO_141 HB hHeld ⊢
                           refine join_ (σ := Value × Value) 5 #[true, true, false, false, false, false, false] (fun s_ => [(161, s_.1), (162, s_.2)]) (fun s_ w' => (Kd.R (Kd.int .u8) 5 w' w.heap.size (fun _ => True) s_.1 y499) ∧ (Kd.R (Kd.int .i64) 3 w' w.heap.size (fun _ => True) s_.2 y502) ∧ (Kd.R (Kd.int .i32) 21 w' w.heap.size (fun _ => True) (.slice Ao210 y496.length co210) y496) ∧ (Below w.heap.size w w')) ?_ ?_
                           rotate_left
                           ·intro hCont
                            refine two_ (i := 0) (j := 1) (Ni := some 161) (Nj := some 162) #[true, false, false, false, false, false, false] #[false, true, false, false, false, false, false] rfl rfl rfl rfl (by kernel_rfl) (by decide) (by decide) (fun K hK => ?_) (fun K hK => ?_)
                            ·skip
                             refine Kd.R_make_step (Kd.int .u8) _ 5 (by rfl) (N := 161) rfl 23 _ _ rfl 65537 rfl rfl Tryd.underlying23 (.int .u8 0) 1 info5 rfl (by decide) (by omega) 0 (ok := fun _ => True) (okp := fun _ => True) rfl (fun _ hk => hk) trivial (by omega) (by omega) (Below.refl _ _) (Nat.le_refl _) ?_
                             intro v500 w245 ho246 hb hg_ hnew_
                             clear hg_ hnew_
                             (first | rw [← Ny499.out] at ho246 | (simp only [Int.reduceToNat] at ho246; rw [← Ny499.out] at ho246))
                             have n0_ := Aside0.mk (Kd.R_below (RR HO_141) hb)
                             have n1_ := Aside0.mk (Kd.R_lower ho246 (below_size (BB HB)))
                             have n2_ := Aside0.mk (below_step (BB HB) hb)
                             clear HO_141; clear HB
                             have HO_141 := n0_
                             have HO501 := n1_
                             have HB := n2_
                             clear n0_ n1_ n2_; clear hb ho246
                             refine hK.out _ _ trivial (fun hHeld => ?_)
                             clear hK K
                             refine norm_ (a' := ?_) ?_ ?_
                             rotate_left
                             ·show Act.put _ (some 161) _ = _
                              simp only [Act.put, List.setIfInBounds_toArray, List.set_cons_zero, List.set_cons_succ, i64_w, i32_w]
                              rfl
                             refine one_ (i := 1) (N := some 162) #[true, true, false, false, false, false, false] rfl rfl (by kernel_rfl) (by decide) (fun K hK => ?_)
                             refine Kd.R_make_step (Kd.int .i64) _ 3 (by rfl) (N := 162) rfl 30 _ _ rfl 65537 rfl rfl Tryd.underlying30 (.int .i64 0) 8 info3 rfl (by decide) (by omega) 0 (ok := fun _ => True) (okp := fun _ => True) rfl (fun _ hk => hk) trivial (by omega) (by omega) (Below.refl _ _) (Nat.le_refl _) ?_
                             intro v503 w247 ho248 hb hg_ hnew_
                             clear hg_ hnew_
                             (first | rw [← Ny502.out] at ho248 | (simp only [Int.reduceToNat] at ho248; rw [← Ny502.out] at ho248))
                             have n0_ := Aside0.mk (Kd.R_below (RR HO_141) hb)
                             have n1_ := Aside0.mk (Kd.R_below (RR HO501) hb)
                             have n2_ := Aside0.mk (Kd.R_lower ho248 (below_size (BB HB)))
                             have n3_ := Aside0.mk (below_step (BB HB) hb)
                             clear HO_141; clear HO501; clear HB
                             have HO_141 := n0_
                             have HO501 := n1_
                             have HO504 := n2_
                             have HB := n3_
                             clear n0_ n1_ n2_ n3_; clear hb ho248
                             refine hK.out _ _ trivial (fun hHeld => ?_)
                             clear hK K
                             refine norm_ (a' := ?_) ?_ ?_
                             rotate_left
                             ·show Act.put _ (some 162) _ = _
                              simp only [Act.put, List.setIfInBounds_toArray, List.set_cons_zero, List.set_cons_succ, i64_w, i32_w]
                              rfl
                             exact norm_ (by simp only [putAll, Act.put, List.setIfInBounds_toArray, List.set_cons_zero, List.set_cons_succ]) (hCont (v500, v503) _ ⟨(RR HO501), (RR HO504), (RR HO_141), (BB HB)⟩)
                            ·skip
                             refine Kd.R_make_step (Kd.int .i64) _ 3 (by rfl) (N := 162) rfl 30 _ _ rfl 65537 rfl rfl Tryd.underlying30 (.int .i64 0) 8 info3 rfl (by decide) (by omega) 0 (ok := fun _ => True) (okp := fun _ => True) rfl (fun _ hk => hk) trivial (by omega) (by omega) (Below.refl _ _) (Nat.le_refl _) ?_
                             intro v503 w245 ho246 hb hg_ hnew_
                             clear hg_ hnew_
                             (first | rw [← Ny502.out] at ho246 | (simp only [Int.reduceToNat] at ho246; rw [← Ny502.out] at ho246))
                             have n0_ := Aside0.mk (Kd.R_below (RR HO_141) hb)
                             have n1_ := Aside0.mk (Kd.R_lower ho246 (below_size (BB HB)))
                             have n2_ := Aside0.mk (below_step (BB HB) hb)
                             clear HO_141; clear HB
                             have HO_141 := n0_
                             have HO504 := n1_
                             have HB := n2_
                             clear n0_ n1_ n2_; clear hb ho246
                             refine hK.out _ _ trivial (fun hHeld => ?_)
                             clear hK K
                             refine norm_ (a' := ?_) ?_ ?_
                             rotate_left
                             ·show Act.put _ (some 162) _ = _
                              simp only [Act.put, List.setIfInBounds_toArray, List.set_cons_zero, List.set_cons_succ, i64_w, i32_w]
                              rfl
                             refine one_ (i := 0) (N := some 161) #[true, true, false, false, false, false, false] rfl rfl (by kernel_rfl) (by decide) (fun K hK => ?_)
                             refine Kd.R_make_step (Kd.int .u8) _ 5 (by rfl) (N := 161) rfl 23 _ _ rfl 65537 rfl rfl Tryd.underlying23 (.int .u8 0) 1 info5 rfl (by decide) (by omega) 0 (ok := fun _ => True) (okp := fun _ => True) rfl (fun _ hk => hk) trivial (by omega) (by omega) (Below.refl _ _) (Nat.le_refl _) ?_
                             intro v500 w247 ho248 hb hg_ hnew_
                             clear hg_ hnew_
                             (first | rw [← Ny499.out] at ho248 | (simp only [Int.reduceToNat] at ho248; rw [← Ny499.out] at ho248))
                             have n0_ := Aside0.mk (Kd.R_below (RR HO_141) hb)
                             have n1_ := Aside0.mk (Kd.R_below (RR HO504) hb)
                             have n2_ := Aside0.mk (Kd.R_lower ho248 (below_size (BB HB)))
                             have n3_ := Aside0.mk (below_step (BB HB) hb)
                             clear HO_141; clear HO504; clear HB
                             have HO_141 := n0_
                             have HO504 := n1_
                             have HO501 := n2_
                             have HB := n3_
                             clear n0_ n1_ n2_ n3_; clear hb ho248
                             refine hK.out _ _ trivial (fun hHeld => ?_)
                             clear hK K
                             refine norm_ (a' := ?_) ?_ ?_
                             rotate_left
                             ·show Act.put _ (some 161) _ = _
                              simp only [Act.put, List.setIfInBounds_toArray, List.set_cons_zero, List.set_cons_succ, i64_w, i32_w]
                              rfl
                             exact norm_ (by simp only [putAll, Act.put, List.setIfInBounds_toArray, List.set_cons_zero, List.set_cons_succ]) (hCont (v500, v503) _ ⟨(RR HO501), (RR HO504), (RR HO_141), (BB HB)⟩)
                           rintro ⟨v500, v503⟩ w249 ⟨h0_, h1_, h2_, h3_⟩
                           have n0_ : Aside0 (Kd.R (Kd.int .u8) 5 w249 w.heap.size (fun _ => True) v500 y499) := ⟨h0_⟩
                           have n1_ : Aside0 (Kd.R (Kd.int .i64) 3 w249 w.heap.size (fun _ => True) v503 y502) := ⟨h1_⟩
                           have n2_ : Aside0 (Kd.R (Kd.int .i32) 21 w249 w.heap.size (fun _ => True) (.slice Ao210 y496.length co210) y496) := ⟨h2_⟩
                           have n3_ : Aside0 (Below w.heap.size w w249) := ⟨h3_⟩
                           clear HO_141; clear HB; clear h0_ h1_ h2_ h3_
                           have HO501 := n0_
                           have HO504 := n1_
                           have HO_141 := n2_
                           have HB := n3_
                           clear n0_ n1_ n2_ n3_
                           have hHeld := trivial
                           obtain ⟨Ao250, co250, eo250⟩ := Kd.R_slice HO501.out
                           (first | subst eo250 | (injection eo250 with f1_ f2_ f3_; have f4_ := f1_.symm; have f5_ := f3_.symm; clear f1_ f2_ f3_; subst f4_; subst f5_))
                           obtain ⟨Ao251, co251, eo251⟩ := Kd.R_slice HO504.out
                           (first | subst eo251 | (injection eo251 with f1_ f2_ f3_; have f4_ := f1_.symm; have f5_ := f3_.symm; clear f1_ f2_ f3_; subst f4_; subst f5_))
                           refine norm_ (a' := ?_) ?_ ?_
                           rotate_left
                           ·simp only [putAll, Act.put, List.setIfInBounds_toArray, List.set_cons_zero, List.set_cons_succ]
                            rfl
                           refine one_ (i := 2) (N := some 163) #[true, true, true, false, false, false, false] rfl rfl (by kernel_rfl) (by decide) (fun K hK => ?_)
                           refine goes_ Tryd.func8 (by kernel_rfl) rfl #[.slice Ao250 y499.length co250, .slice Ao251 y502.length co251] (by rfl) rfl rfl (by (try simp only [List.map_toArray, List.map_cons, List.map_nil]); first | done | rfl | (simp only [List.length_drop, List.length_take]; rfl)) ?_
                           with_reducible refine (selvedgelaw20_OrderShows.calls k7 _ _ y499 _ _ y502 false _ ?side1 ?side2 ?side3 ?side4 A231.out).mono ?_
                           (case side1 => repeat (first | exact (Kd.R_reads' HO501.out).2.2 | (with_reducible refine Kd.C_alloc ?_ _) | (with_reducible refine Kd.C_drewN ?_ _) | (with_reducible refine Kd.C_drew ?_)))
                           (case side2 => exact (Kd.R_reads' HO501.out).2.1)
                           (case side3 => repeat (first | exact (Kd.R_reads' HO504.out).2.2 | (with_reducible refine Kd.C_alloc ?_ _) | (with_reducible refine Kd.C_drewN ?_ _) | (with_reducible refine Kd.C_drew ?_)))
                           (case side4 => exact (Kd.R_reads' HO504.out).2.1)
                           rintro e w252 ⟨rfl, hb⟩
                           refine ⟨_, rfl, ?_⟩
                           have n0_ := Aside0.mk (Kd.R_below (RR HO_141) hb)
                           have n1_ := Aside0.mk (Kd.R_below (RR HO501) hb)
                           have n2_ := Aside0.mk (Kd.R_below (RR HO504) hb)
                           have n3_ := Aside0.mk (below_step (BB HB) hb)
                           clear HO_141; clear HO501; clear HO504; clear HB
                           have HO_141 := n0_
                           have HO501 := n1_
                           have HO504 := n2_
                           have HB := n3_
                           clear n0_ n1_ n2_ n3_; (try clear hb); (try clear hb2); (try clear hk); (try clear hi)
                           refine hK.out _ _ trivial (fun hHeld => ?_)
                           clear hK K
                           refine norm_ (a' := ?_) ?_ ?_
                           rotate_left
                           ·show Act.put _ (some 163) _ = _
                            simp only [Act.put, List.setIfInBounds_toArray, List.set_cons_zero, List.set_cons_succ, i64_w, i32_w]
                            rfl
                           refine pure_ (i := 3) (N := some 164) (v := ?_) (a' := ?_) #[true, true, true, true, false, false, false] rfl rfl (by kernel_rfl) (fun _ _ _ h => h) (Or.inl ⟨by rfl, ?_⟩) ?_ ?_
                           rotate_left
                           ·intro w'
                            go_simp
                            with_reducible rfl
                           rotate_left
                           ·simp only [Act.put, List.setIfInBounds_toArray, List.set_cons_zero, List.set_cons_succ, i64_w, i32_w]
                            rfl
                           refine pure_ (i := 4) (N := some 165) (v := undef) (a' := ?_) #[true, true, true, true, true, false, false] rfl rfl (by kernel_rfl) (fun _ _ _ h => h) (Or.inr ⟨by rfl, rfl⟩) ?_ ?_
                           rotate_left
                           ·simp only [Act.put, List.setIfInBounds_toArray, List.set_cons_zero, List.set_cons_succ, i64_w, i32_w]
                            rfl
                           refine pure_ (i := 5) (N := some 166) (v := ?_) (a' := ?_) #[true, true, true, true, true, true, false] rfl rfl (by kernel_rfl) (fun _ _ _ h => h) (Or.inl ⟨by rfl, ?_⟩) ?_ ?_
                           rotate_left
                           ·intro w'
                            go_simp
                            with_reducible rfl
                           rotate_left
                           ·simp only [Act.put, List.setIfInBounds_toArray, List.set_cons_zero, List.set_cons_succ, i64_w, i32_w]
                            rfl
                           refine pure_ (i := 6) (N := some 0) (v := ?_) (a' := ?_) #[true, true, true, true, true, true, true] rfl rfl (by kernel_rfl) (fun _ _ _ h => h) (Or.inl ⟨by rfl, ?_⟩) ?_ ?_
                           rotate_left
                           ·intro w'
                            go_simp
                            with_reducible rfl
                           rotate_left
                           ·simp only [Act.put, List.setIfInBounds_toArray, List.set_cons_zero, List.set_cons_succ, i64_w, i32_w]
                            rfl
                           refine done_ (by kernel_rfl) ?_
                           try go_wp2
                           go_ret
                           exact ⟨FF, BB HB⟩
                         ·rw [if_neg c230] at H
                          exact absurd H (by simp)
                        ·rw [if_neg c229] at H
                         exact absurd H (by simp)
     ·rw [if_neg c13] at H
      exact absurd H (by simp)
    ·rw [if_neg c12] at H
     exact absurd H (by simp)
def selvedgelaw20_OrderKnown.Pure : Prop := ∃ k, selvedgelaw20_OrderKnown.f k  = some true
theorem selvedgelaw20_OrderKnown.walk (P : selvedgelaw20_OrderKnown.Pure)  (w : World)  (hG : LaidW w) :
  Calls Tryd.prog 9 #[] w fun e w' => e = .returned (.bool true) ∧ Below w.heap.size w w' := by
 obtain ⟨k, h⟩ := P  
 refine (selvedgelaw20_OrderKnown.calls k  true w h).mono ?_
 rintro e w' ⟨rfl, hd⟩
 exact ⟨rfl, hd⟩
end Go.Proofs.YtgfkbijmchoolaaDoor.P

/- Written by a program of this session (wip/mkascii.py): the walk of PropsAscii for characters 48 to 61. -/
import Derived.Test.YtmhebfohlebaaaaDoorSh
import Derived.Test.YtmhebfohlebaaaaDoorP0
import Derived.Test.YtmhebfohlebaaaaDoorP1
import Derived.Test.YtmhebfohlebaaaaDoorP2
namespace Go.Proofs.YtmhebfohlebaaaaDoor.Q
open Go.Proofs.YtmhebfohlebaaaaDoorH Go.Proofs.YtmhebfohlebaaaaDoorSh Go.RowKit Go.Proofs.YtmhebfohlebaaaaDoor.P Go.Proofs.YtmhebfohlebaaaaDoorW.PrintWords Go.Proofs.YtmhebfohlebaaaaDoorW.PrintLast Go.Proofs.YtmhebfohlebaaaaDoorW.PrintMore
set_option linter.unusedVariables false
set_option linter.unusedSimpArgs false
theorem asc20_all : ((List.range 10).all fun n => clsOf ((n : Int) + 48) == 4 && (mirOf ((n : Int) + 48) == ((n : Int) + 48, false)) && props_Space.f ((n : Int) + 48) == some false) = true := by kernel_rfl
set_option maxHeartbeats 8000000 in
set_option maxRecDepth 100000 in
theorem asc20 (a0 : Int) (w : World) (h0 : 48 ≤ (wrap32 (Int.tmod a0 128))) (h1 : (wrap32 (Int.tmod a0 128)) ≤ 57) (hG : LaidW w) : Calls Tryd.prog 7 #[.int .u8 a0] w fun e w' => e = .returned (.bool true) ∧ Below w.heap.size w w' := by
  have HG := Aside0.mk hG; clear hG
  have HB := Aside0.mk (Below.refl w.heap.size w)
  have hall := (List.all_eq_true.1 asc20_all) ((wrap32 (Int.tmod a0 128)) - 48).toNat (by rw [List.mem_range]; omega)
  rw [show ((((wrap32 (Int.tmod a0 128)) - 48).toNat : Nat) : Int) + 48 = (wrap32 (Int.tmod a0 128)) by omega] at hall
  simp only [Bool.and_eq_true, beq_iff_eq] at hall
  have HK := Aside0.mk (show props_Class.f (wrap32 (Int.tmod a0 128)) = some 4 by unfold props_Class.f; rw [hall.1.1])
  have HM := Aside0.mk (show props_Mirror.f (wrap32 (Int.tmod a0 128)) = some ((wrap32 (Int.tmod a0 128)), false) by unfold props_Mirror.f; rw [hall.1.2])
  have HS := Aside0.mk hall.2; clear hall
  have gge97 : decide (97 ≤ (wrap32 (Int.tmod a0 128))) = false := decide_eq_false (by omega)
  have gle122 : decide ((wrap32 (Int.tmod a0 128)) ≤ 122) = true := decide_eq_true (by omega)
  have gge65 : decide (65 ≤ (wrap32 (Int.tmod a0 128))) = false := decide_eq_false (by omega)
  have gle90 : decide ((wrap32 (Int.tmod a0 128)) ≤ 90) = true := decide_eq_true (by omega)
  have gge48 : decide (48 ≤ (wrap32 (Int.tmod a0 128))) = true := decide_eq_true (by omega)
  have gle57 : decide ((wrap32 (Int.tmod a0 128)) ≤ 57) = true := decide_eq_true (by omega)
  have ggt32 : decide (32 < (wrap32 (Int.tmod a0 128))) = true := decide_eq_true (by omega)
  have e40 : ((wrap32 (Int.tmod a0 128)) == 40) = false := beq_eq_false_iff_ne.mpr (by omega)
  have e41 : ((wrap32 (Int.tmod a0 128)) == 41) = false := beq_eq_false_iff_ne.mpr (by omega)
  have e91 : ((wrap32 (Int.tmod a0 128)) == 91) = false := beq_eq_false_iff_ne.mpr (by omega)
  have e93 : ((wrap32 (Int.tmod a0 128)) == 93) = false := beq_eq_false_iff_ne.mpr (by omega)
  have e123 : ((wrap32 (Int.tmod a0 128)) == 123) = false := beq_eq_false_iff_ne.mpr (by omega)
  have e125 : ((wrap32 (Int.tmod a0 128)) == 125) = false := beq_eq_false_iff_ne.mpr (by omega)
  have e60 : ((wrap32 (Int.tmod a0 128)) == 60) = false := beq_eq_false_iff_ne.mpr (by omega)
  have e62 : ((wrap32 (Int.tmod a0 128)) == 62) = false := beq_eq_false_iff_ne.mpr (by omega)
  have e9 : ((wrap32 (Int.tmod a0 128)) == 9) = false := beq_eq_false_iff_ne.mpr (by omega)
  have e10 : ((wrap32 (Int.tmod a0 128)) == 10) = false := beq_eq_false_iff_ne.mpr (by omega)
  have e12 : ((wrap32 (Int.tmod a0 128)) == 12) = false := beq_eq_false_iff_ne.mpr (by omega)
  have e13 : ((wrap32 (Int.tmod a0 128)) == 13) = false := beq_eq_false_iff_ne.mpr (by omega)
  have e32 : ((wrap32 (Int.tmod a0 128)) == 32) = false := beq_eq_false_iff_ne.mpr (by omega)
  clear h0 h1
  go_enter Tryd.func7, Tryd.ntmps7
  go_wp2_with (first | (go_at_call 10; (refine (props_Class.calls (wrap32 (Int.tmod a0 128)) 4 _ HK.out).mono ?_); rintro e w4 ⟨rfl, hb⟩; have n0_ := Aside0.mk (below_step (BB HB) hb); clear HB; have HB := n0_; clear n0_ hb) | (go_at_call 15; (refine (props_Mirror.calls (wrap32 (Int.tmod a0 128)) (wrap32 (Int.tmod a0 128)) false _ HM.out (LaidW.below HG.out (BB HB))).mono ?_); rintro e w5 ⟨rfl, hb⟩; have n0_ := Aside0.mk (below_step (BB HB) hb); clear HB; have HB := n0_; clear n0_ hb) | (go_at_call 17; (refine (props_Space.calls (wrap32 (Int.tmod a0 128)) false _ HS.out).mono ?_); rintro e w6 ⟨rfl, ⟨nd, rfl⟩⟩) | (go_at_call 12; (refine (selvedgelaw01_works.calls true _ (by kernel_rfl)).mono ?_); rintro e w7 ⟨rfl, hb⟩; have n0_ := Aside0.mk (below_step (BB HB) hb); clear HB; have HB := n0_; clear n0_ hb))
  go_ret
  exact ⟨rfl, BB HB⟩
theorem asc21_all : ((List.range 1).all fun n => clsOf ((n : Int) + 58) == 8 && (mirOf ((n : Int) + 58) == ((n : Int) + 58, false)) && props_Space.f ((n : Int) + 58) == some false) = true := by kernel_rfl
set_option maxHeartbeats 8000000 in
set_option maxRecDepth 100000 in
theorem asc21 (a0 : Int) (w : World) (h0 : 58 ≤ (wrap32 (Int.tmod a0 128))) (h1 : (wrap32 (Int.tmod a0 128)) ≤ 58) (hG : LaidW w) : Calls Tryd.prog 7 #[.int .u8 a0] w fun e w' => e = .returned (.bool true) ∧ Below w.heap.size w w' := by
  have HG := Aside0.mk hG; clear hG
  have HB := Aside0.mk (Below.refl w.heap.size w)
  have hall := (List.all_eq_true.1 asc21_all) ((wrap32 (Int.tmod a0 128)) - 58).toNat (by rw [List.mem_range]; omega)
  rw [show ((((wrap32 (Int.tmod a0 128)) - 58).toNat : Nat) : Int) + 58 = (wrap32 (Int.tmod a0 128)) by omega] at hall
  simp only [Bool.and_eq_true, beq_iff_eq] at hall
  have HK := Aside0.mk (show props_Class.f (wrap32 (Int.tmod a0 128)) = some 8 by unfold props_Class.f; rw [hall.1.1])
  have HM := Aside0.mk (show props_Mirror.f (wrap32 (Int.tmod a0 128)) = some ((wrap32 (Int.tmod a0 128)), false) by unfold props_Mirror.f; rw [hall.1.2])
  have HS := Aside0.mk hall.2; clear hall
  have gge97 : decide (97 ≤ (wrap32 (Int.tmod a0 128))) = false := decide_eq_false (by omega)
  have gle122 : decide ((wrap32 (Int.tmod a0 128)) ≤ 122) = true := decide_eq_true (by omega)
  have gge65 : decide (65 ≤ (wrap32 (Int.tmod a0 128))) = false := decide_eq_false (by omega)
  have gle90 : decide ((wrap32 (Int.tmod a0 128)) ≤ 90) = true := decide_eq_true (by omega)
  have gge48 : decide (48 ≤ (wrap32 (Int.tmod a0 128))) = true := decide_eq_true (by omega)
  have gle57 : decide ((wrap32 (Int.tmod a0 128)) ≤ 57) = false := decide_eq_false (by omega)
  have ggt32 : decide (32 < (wrap32 (Int.tmod a0 128))) = true := decide_eq_true (by omega)
  have e40 : ((wrap32 (Int.tmod a0 128)) == 40) = false := beq_eq_false_iff_ne.mpr (by omega)
  have e41 : ((wrap32 (Int.tmod a0 128)) == 41) = false := beq_eq_false_iff_ne.mpr (by omega)
  have e91 : ((wrap32 (Int.tmod a0 128)) == 91) = false := beq_eq_false_iff_ne.mpr (by omega)
  have e93 : ((wrap32 (Int.tmod a0 128)) == 93) = false := beq_eq_false_iff_ne.mpr (by omega)
  have e123 : ((wrap32 (Int.tmod a0 128)) == 123) = false := beq_eq_false_iff_ne.mpr (by omega)
  have e125 : ((wrap32 (Int.tmod a0 128)) == 125) = false := beq_eq_false_iff_ne.mpr (by omega)
  have e60 : ((wrap32 (Int.tmod a0 128)) == 60) = false := beq_eq_false_iff_ne.mpr (by omega)
  have e62 : ((wrap32 (Int.tmod a0 128)) == 62) = false := beq_eq_false_iff_ne.mpr (by omega)
  have e9 : ((wrap32 (Int.tmod a0 128)) == 9) = false := beq_eq_false_iff_ne.mpr (by omega)
  have e10 : ((wrap32 (Int.tmod a0 128)) == 10) = false := beq_eq_false_iff_ne.mpr (by omega)
  have e12 : ((wrap32 (Int.tmod a0 128)) == 12) = false := beq_eq_false_iff_ne.mpr (by omega)
  have e13 : ((wrap32 (Int.tmod a0 128)) == 13) = false := beq_eq_false_iff_ne.mpr (by omega)
  have e32 : ((wrap32 (Int.tmod a0 128)) == 32) = false := beq_eq_false_iff_ne.mpr (by omega)
  clear h0 h1
  go_enter Tryd.func7, Tryd.ntmps7
  go_wp2_with (first | (go_at_call 10; (refine (props_Class.calls (wrap32 (Int.tmod a0 128)) 8 _ HK.out).mono ?_); rintro e w4 ⟨rfl, hb⟩; have n0_ := Aside0.mk (below_step (BB HB) hb); clear HB; have HB := n0_; clear n0_ hb) | (go_at_call 15; (refine (props_Mirror.calls (wrap32 (Int.tmod a0 128)) (wrap32 (Int.tmod a0 128)) false _ HM.out (LaidW.below HG.out (BB HB))).mono ?_); rintro e w5 ⟨rfl, hb⟩; have n0_ := Aside0.mk (below_step (BB HB) hb); clear HB; have HB := n0_; clear n0_ hb) | (go_at_call 17; (refine (props_Space.calls (wrap32 (Int.tmod a0 128)) false _ HS.out).mono ?_); rintro e w6 ⟨rfl, ⟨nd, rfl⟩⟩) | (go_at_call 12; (refine (selvedgelaw01_works.calls true _ (by kernel_rfl)).mono ?_); rintro e w7 ⟨rfl, hb⟩; have n0_ := Aside0.mk (below_step (BB HB) hb); clear HB; have HB := n0_; clear n0_ hb))
  go_ret
  exact ⟨rfl, BB HB⟩
theorem asc22_all : ((List.range 1).all fun n => clsOf ((n : Int) + 59) == 14 && (mirOf ((n : Int) + 59) == ((n : Int) + 59, false)) && props_Space.f ((n : Int) + 59) == some false) = true := by kernel_rfl
set_option maxHeartbeats 8000000 in
set_option maxRecDepth 100000 in
theorem asc22 (a0 : Int) (w : World) (h0 : 59 ≤ (wrap32 (Int.tmod a0 128))) (h1 : (wrap32 (Int.tmod a0 128)) ≤ 59) (hG : LaidW w) : Calls Tryd.prog 7 #[.int .u8 a0] w fun e w' => e = .returned (.bool true) ∧ Below w.heap.size w w' := by
  have HG := Aside0.mk hG; clear hG
  have HB := Aside0.mk (Below.refl w.heap.size w)
  have hall := (List.all_eq_true.1 asc22_all) ((wrap32 (Int.tmod a0 128)) - 59).toNat (by rw [List.mem_range]; omega)
  rw [show ((((wrap32 (Int.tmod a0 128)) - 59).toNat : Nat) : Int) + 59 = (wrap32 (Int.tmod a0 128)) by omega] at hall
  simp only [Bool.and_eq_true, beq_iff_eq] at hall
  have HK := Aside0.mk (show props_Class.f (wrap32 (Int.tmod a0 128)) = some 14 by unfold props_Class.f; rw [hall.1.1])
  have HM := Aside0.mk (show props_Mirror.f (wrap32 (Int.tmod a0 128)) = some ((wrap32 (Int.tmod a0 128)), false) by unfold props_Mirror.f; rw [hall.1.2])
  have HS := Aside0.mk hall.2; clear hall
  have gge97 : decide (97 ≤ (wrap32 (Int.tmod a0 128))) = false := decide_eq_false (by omega)
  have gle122 : decide ((wrap32 (Int.tmod a0 128)) ≤ 122) = true := decide_eq_true (by omega)
  have gge65 : decide (65 ≤ (wrap32 (Int.tmod a0 128))) = false := decide_eq_false (by omega)
  have gle90 : decide ((wrap32 (Int.tmod a0 128)) ≤ 90) = true := decide_eq_true (by omega)
  have gge48 : decide (48 ≤ (wrap32 (Int.tmod a0 128))) = true := decide_eq_true (by omega)
  have gle57 : decide ((wrap32 (Int.tmod a0 128)) ≤ 57) = false := decide_eq_false (by omega)
  have ggt32 : decide (32 < (wrap32 (Int.tmod a0 128))) = true := decide_eq_true (by omega)
  have e40 : ((wrap32 (Int.tmod a0 128)) == 40) = false := beq_eq_false_iff_ne.mpr (by omega)
  have e41 : ((wrap32 (Int.tmod a0 128)) == 41) = false := beq_eq_false_iff_ne.mpr (by omega)
  have e91 : ((wrap32 (Int.tmod a0 128)) == 91) = false := beq_eq_false_iff_ne.mpr (by omega)
  have e93 : ((wrap32 (Int.tmod a0 128)) == 93) = false := beq_eq_false_iff_ne.mpr (by omega)
  have e123 : ((wrap32 (Int.tmod a0 128)) == 123) = false := beq_eq_false_iff_ne.mpr (by omega)
  have e125 : ((wrap32 (Int.tmod a0 128)) == 125) = false := beq_eq_false_iff_ne.mpr (by omega)
  have e60 : ((wrap32 (Int.tmod a0 128)) == 60) = false := beq_eq_false_iff_ne.mpr (by omega)
  have e62 : ((wrap32 (Int.tmod a0 128)) == 62) = false := beq_eq_false_iff_ne.mpr (by omega)
  have e9 : ((wrap32 (Int.tmod a0 128)) == 9) = false := beq_eq_false_iff_ne.mpr (by omega)
  have e10 : ((wrap32 (Int.tmod a0 128)) == 10) = false := beq_eq_false_iff_ne.mpr (by omega)
  have e12 : ((wrap32 (Int.tmod a0 128)) == 12) = false := beq_eq_false_iff_ne.mpr (by omega)
  have e13 : ((wrap32 (Int.tmod a0 128)) == 13) = false := beq_eq_false_iff_ne.mpr (by omega)
  have e32 : ((wrap32 (Int.tmod a0 128)) == 32) = false := beq_eq_false_iff_ne.mpr (by omega)
  clear h0 h1
  go_enter Tryd.func7, Tryd.ntmps7
  go_wp2_with (first | (go_at_call 10; (refine (props_Class.calls (wrap32 (Int.tmod a0 128)) 14 _ HK.out).mono ?_); rintro e w4 ⟨rfl, hb⟩; have n0_ := Aside0.mk (below_step (BB HB) hb); clear HB; have HB := n0_; clear n0_ hb) | (go_at_call 15; (refine (props_Mirror.calls (wrap32 (Int.tmod a0 128)) (wrap32 (Int.tmod a0 128)) false _ HM.out (LaidW.below HG.out (BB HB))).mono ?_); rintro e w5 ⟨rfl, hb⟩; have n0_ := Aside0.mk (below_step (BB HB) hb); clear HB; have HB := n0_; clear n0_ hb) | (go_at_call 17; (refine (props_Space.calls (wrap32 (Int.tmod a0 128)) false _ HS.out).mono ?_); rintro e w6 ⟨rfl, ⟨nd, rfl⟩⟩) | (go_at_call 12; (refine (selvedgelaw01_works.calls true _ (by kernel_rfl)).mono ?_); rintro e w7 ⟨rfl, hb⟩; have n0_ := Aside0.mk (below_step (BB HB) hb); clear HB; have HB := n0_; clear n0_ hb))
  go_ret
  exact ⟨rfl, BB HB⟩
theorem asc23_all : ((List.range 1).all fun n => clsOf ((n : Int) + 60) == 14 && (mirOf ((n : Int) + 60) == (62, true)) && props_Space.f ((n : Int) + 60) == some false) = true := by kernel_rfl
set_option maxHeartbeats 8000000 in
set_option maxRecDepth 100000 in
theorem asc23 (a0 : Int) (w : World) (h0 : 60 ≤ (wrap32 (Int.tmod a0 128))) (h1 : (wrap32 (Int.tmod a0 128)) ≤ 60) (hG : LaidW w) : Calls Tryd.prog 7 #[.int .u8 a0] w fun e w' => e = .returned (.bool true) ∧ Below w.heap.size w w' := by
  have HG := Aside0.mk hG; clear hG
  have HB := Aside0.mk (Below.refl w.heap.size w)
  have hall := (List.all_eq_true.1 asc23_all) ((wrap32 (Int.tmod a0 128)) - 60).toNat (by rw [List.mem_range]; omega)
  rw [show ((((wrap32 (Int.tmod a0 128)) - 60).toNat : Nat) : Int) + 60 = (wrap32 (Int.tmod a0 128)) by omega] at hall
  simp only [Bool.and_eq_true, beq_iff_eq] at hall
  have HK := Aside0.mk (show props_Class.f (wrap32 (Int.tmod a0 128)) = some 14 by unfold props_Class.f; rw [hall.1.1])
  have HM := Aside0.mk (show props_Mirror.f (wrap32 (Int.tmod a0 128)) = some (62, true) by unfold props_Mirror.f; rw [hall.1.2])
  have HS := Aside0.mk hall.2; clear hall
  have gge97 : decide (97 ≤ (wrap32 (Int.tmod a0 128))) = false := decide_eq_false (by omega)
  have gle122 : decide ((wrap32 (Int.tmod a0 128)) ≤ 122) = true := decide_eq_true (by omega)
  have gge65 : decide (65 ≤ (wrap32 (Int.tmod a0 128))) = false := decide_eq_false (by omega)
  have gle90 : decide ((wrap32 (Int.tmod a0 128)) ≤ 90) = true := decide_eq_true (by omega)
  have gge48 : decide (48 ≤ (wrap32 (Int.tmod a0 128))) = true := decide_eq_true (by omega)
  have gle57 : decide ((wrap32 (Int.tmod a0 128)) ≤ 57) = false := decide_eq_false (by omega)
  have ggt32 : decide (32 < (wrap32 (Int.tmod a0 128))) = true := decide_eq_true (by omega)
  have e40 : ((wrap32 (Int.tmod a0 128)) == 40) = false := beq_eq_false_iff_ne.mpr (by omega)
  have e41 : ((wrap32 (Int.tmod a0 128)) == 41) = false := beq_eq_false_iff_ne.mpr (by omega)
  have e91 : ((wrap32 (Int.tmod a0 128)) == 91) = false := beq_eq_false_iff_ne.mpr (by omega)
  have e93 : ((wrap32 (Int.tmod a0 128)) == 93) = false := beq_eq_false_iff_ne.mpr (by omega)
  have e123 : ((wrap32 (Int.tmod a0 128)) == 123) = false := beq_eq_false_iff_ne.mpr (by omega)
  have e125 : ((wrap32 (Int.tmod a0 128)) == 125) = false := beq_eq_false_iff_ne.mpr (by omega)
  have e60 : ((wrap32 (Int.tmod a0 128)) == 60) = true := beq_iff_eq.mpr (by omega)
  have e62 : ((wrap32 (Int.tmod a0 128)) == 62) = false := beq_eq_false_iff_ne.mpr (by omega)
  have e9 : ((wrap32 (Int.tmod a0 128)) == 9) = false := beq_eq_false_iff_ne.mpr (by omega)
  have e10 : ((wrap32 (Int.tmod a0 128)) == 10) = false := beq_eq_false_iff_ne.mpr (by omega)
  have e12 : ((wrap32 (Int.tmod a0 128)) == 12) = false := beq_eq_false_iff_ne.mpr (by omega)
  have e13 : ((wrap32 (Int.tmod a0 128)) == 13) = false := beq_eq_false_iff_ne.mpr (by omega)
  have e32 : ((wrap32 (Int.tmod a0 128)) == 32) = false := beq_eq_false_iff_ne.mpr (by omega)
  clear h0 h1
  go_enter Tryd.func7, Tryd.ntmps7
  go_wp2_with (first | (go_at_call 10; (refine (props_Class.calls (wrap32 (Int.tmod a0 128)) 14 _ HK.out).mono ?_); rintro e w4 ⟨rfl, hb⟩; have n0_ := Aside0.mk (below_step (BB HB) hb); clear HB; have HB := n0_; clear n0_ hb) | (go_at_call 15; (refine (props_Mirror.calls (wrap32 (Int.tmod a0 128)) 62 true _ HM.out (LaidW.below HG.out (BB HB))).mono ?_); rintro e w5 ⟨rfl, hb⟩; have n0_ := Aside0.mk (below_step (BB HB) hb); clear HB; have HB := n0_; clear n0_ hb) | (go_at_call 17; (refine (props_Space.calls (wrap32 (Int.tmod a0 128)) false _ HS.out).mono ?_); rintro e w6 ⟨rfl, ⟨nd, rfl⟩⟩) | (go_at_call 12; (refine (selvedgelaw01_works.calls true _ (by kernel_rfl)).mono ?_); rintro e w7 ⟨rfl, hb⟩; have n0_ := Aside0.mk (below_step (BB HB) hb); clear HB; have HB := n0_; clear n0_ hb))
  go_ret
  exact ⟨rfl, BB HB⟩
theorem asc24_all : ((List.range 1).all fun n => clsOf ((n : Int) + 61) == 14 && (mirOf ((n : Int) + 61) == ((n : Int) + 61, false)) && props_Space.f ((n : Int) + 61) == some false) = true := by kernel_rfl
set_option maxHeartbeats 8000000 in
set_option maxRecDepth 100000 in
theorem asc24 (a0 : Int) (w : World) (h0 : 61 ≤ (wrap32 (Int.tmod a0 128))) (h1 : (wrap32 (Int.tmod a0 128)) ≤ 61) (hG : LaidW w) : Calls Tryd.prog 7 #[.int .u8 a0] w fun e w' => e = .returned (.bool true) ∧ Below w.heap.size w w' := by
  have HG := Aside0.mk hG; clear hG
  have HB := Aside0.mk (Below.refl w.heap.size w)
  have hall := (List.all_eq_true.1 asc24_all) ((wrap32 (Int.tmod a0 128)) - 61).toNat (by rw [List.mem_range]; omega)
  rw [show ((((wrap32 (Int.tmod a0 128)) - 61).toNat : Nat) : Int) + 61 = (wrap32 (Int.tmod a0 128)) by omega] at hall
  simp only [Bool.and_eq_true, beq_iff_eq] at hall
  have HK := Aside0.mk (show props_Class.f (wrap32 (Int.tmod a0 128)) = some 14 by unfold props_Class.f; rw [hall.1.1])
  have HM := Aside0.mk (show props_Mirror.f (wrap32 (Int.tmod a0 128)) = some ((wrap32 (Int.tmod a0 128)), false) by unfold props_Mirror.f; rw [hall.1.2])
  have HS := Aside0.mk hall.2; clear hall
  have gge97 : decide (97 ≤ (wrap32 (Int.tmod a0 128))) = false := decide_eq_false (by omega)
  have gle122 : decide ((wrap32 (Int.tmod a0 128)) ≤ 122) = true := decide_eq_true (by omega)
  have gge65 : decide (65 ≤ (wrap32 (Int.tmod a0 128))) = false := decide_eq_false (by omega)
  have gle90 : decide ((wrap32 (Int.tmod a0 128)) ≤ 90) = true := decide_eq_true (by omega)
  have gge48 : decide (48 ≤ (wrap32 (Int.tmod a0 128))) = true := decide_eq_true (by omega)
  have gle57 : decide ((wrap32 (Int.tmod a0 128)) ≤ 57) = false := decide_eq_false (by omega)
  have ggt32 : decide (32 < (wrap32 (Int.tmod a0 128))) = true := decide_eq_true (by omega)
  have e40 : ((wrap32 (Int.tmod a0 128)) == 40) = false := beq_eq_false_iff_ne.mpr (by omega)
  have e41 : ((wrap32 (Int.tmod a0 128)) == 41) = false := beq_eq_false_iff_ne.mpr (by omega)
  have e91 : ((wrap32 (Int.tmod a0 128)) == 91) = false := beq_eq_false_iff_ne.mpr (by omega)
  have e93 : ((wrap32 (Int.tmod a0 128)) == 93) = false := beq_eq_false_iff_ne.mpr (by omega)
  have e123 : ((wrap32 (Int.tmod a0 128)) == 123) = false := beq_eq_false_iff_ne.mpr (by omega)
  have e125 : ((wrap32 (Int.tmod a0 128)) == 125) = false := beq_eq_false_iff_ne.mpr (by omega)
  have e60 : ((wrap32 (Int.tmod a0 128)) == 60) = false := beq_eq_false_iff_ne.mpr (by omega)
  have e62 : ((wrap32 (Int.tmod a0 128)) == 62) = false := beq_eq_false_iff_ne.mpr (by omega)
  have e9 : ((wrap32 (Int.tmod a0 128)) == 9) = false := beq_eq_false_iff_ne.mpr (by omega)
  have e10 : ((wrap32 (Int.tmod a0 128)) == 10) = false := beq_eq_false_iff_ne.mpr (by omega)
  have e12 : ((wrap32 (Int.tmod a0 128)) == 12) = false := beq_eq_false_iff_ne.mpr (by omega)
  have e13 : ((wrap32 (Int.tmod a0 128)) == 13) = false := beq_eq_false_iff_ne.mpr (by omega)
  have e32 : ((wrap32 (Int.tmod a0 128)) == 32) = false := beq_eq_false_iff_ne.mpr (by omega)
  clear h0 h1
  go_enter Tryd.func7, Tryd.ntmps7
  go_wp2_with (first | (go_at_call 10; (refine (props_Class.calls (wrap32 (Int.tmod a0 128)) 14 _ HK.out).mono ?_); rintro e w4 ⟨rfl, hb⟩; have n0_ := Aside0.mk (below_step (BB HB) hb); clear HB; have HB := n0_; clear n0_ hb) | (go_at_call 15; (refine (props_Mirror.calls (wrap32 (Int.tmod a0 128)) (wrap32 (Int.tmod a0 128)) false _ HM.out (LaidW.below HG.out (BB HB))).mono ?_); rintro e w5 ⟨rfl, hb⟩; have n0_ := Aside0.mk (below_step (BB HB) hb); clear HB; have HB := n0_; clear n0_ hb) | (go_at_call 17; (refine (props_Space.calls (wrap32 (Int.tmod a0 128)) false _ HS.out).mono ?_); rintro e w6 ⟨rfl, ⟨nd, rfl⟩⟩) | (go_at_call 12; (refine (selvedgelaw01_works.calls true _ (by kernel_rfl)).mono ?_); rintro e w7 ⟨rfl, hb⟩; have n0_ := Aside0.mk (below_step (BB HB) hb); clear HB; have HB := n0_; clear n0_ hb))
  go_ret
  exact ⟨rfl, BB HB⟩
end Go.Proofs.YtmhebfohlebaaaaDoor.Q

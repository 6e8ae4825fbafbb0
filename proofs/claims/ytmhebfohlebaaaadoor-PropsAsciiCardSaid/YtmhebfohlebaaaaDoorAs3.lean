/- Written by a program of this session (wip/mkascii.py): the walk of PropsAscii for characters 42 to 47. -/
import Derived.Test.YtmhebfohlebaaaaDoorSh
import Derived.Test.YtmhebfohlebaaaaDoorP0
import Derived.Test.YtmhebfohlebaaaaDoorP1
import Derived.Test.YtmhebfohlebaaaaDoorP2
namespace Go.Proofs.YtmhebfohlebaaaaDoor.Q
open Go.Proofs.YtmhebfohlebaaaaDoorH Go.Proofs.YtmhebfohlebaaaaDoorSh Go.RowKit Go.Proofs.YtmhebfohlebaaaaDoor.P Go.Proofs.YtmhebfohlebaaaaDoorW.PrintWords Go.Proofs.YtmhebfohlebaaaaDoorW.PrintLast Go.Proofs.YtmhebfohlebaaaaDoorW.PrintMore
set_option linter.unusedVariables false
set_option linter.unusedSimpArgs false
theorem asc15_all : ((List.range 1).all fun n => clsOf ((n : Int) + 42) == 14 && (mirOf ((n : Int) + 42) == ((n : Int) + 42, false)) && props_Space.f ((n : Int) + 42) == some false) = true := by kernel_rfl
set_option maxHeartbeats 8000000 in
set_option maxRecDepth 100000 in
theorem asc15 (a0 : Int) (w : World) (h0 : 42 ≤ (wrap32 (Int.tmod a0 128))) (h1 : (wrap32 (Int.tmod a0 128)) ≤ 42) (hG : LaidW w) : Calls Tryd.prog 7 #[.int .u8 a0] w fun e w' => e = .returned (.bool true) ∧ Below w.heap.size w w' := by
  have HG := Aside0.mk hG; clear hG
  have HB := Aside0.mk (Below.refl w.heap.size w)
  have hall := (List.all_eq_true.1 asc15_all) ((wrap32 (Int.tmod a0 128)) - 42).toNat (by rw [List.mem_range]; omega)
  rw [show ((((wrap32 (Int.tmod a0 128)) - 42).toNat : Nat) : Int) + 42 = (wrap32 (Int.tmod a0 128)) by omega] at hall
  simp only [Bool.and_eq_true, beq_iff_eq] at hall
  have HK := Aside0.mk (show props_Class.f (wrap32 (Int.tmod a0 128)) = some 14 by unfold props_Class.f; rw [hall.1.1])
  have HM := Aside0.mk (show props_Mirror.f (wrap32 (Int.tmod a0 128)) = some ((wrap32 (Int.tmod a0 128)), false) by unfold props_Mirror.f; rw [hall.1.2])
  have HS := Aside0.mk hall.2; clear hall
  have gge97 : decide (97 ≤ (wrap32 (Int.tmod a0 128))) = false := decide_eq_false (by omega)
  have gle122 : decide ((wrap32 (Int.tmod a0 128)) ≤ 122) = true := decide_eq_true (by omega)
  have gge65 : decide (65 ≤ (wrap32 (Int.tmod a0 128))) = false := decide_eq_false (by omega)
  have gle90 : decide ((wrap32 (Int.tmod a0 128)) ≤ 90) = true := decide_eq_true (by omega)
  have gge48 : decide (48 ≤ (wrap32 (Int.tmod a0 128))) = false := decide_eq_false (by omega)
  have gle57 : decide ((wrap32 (Int.tmod a0 128)) ≤ 57) = true := decide_eq_true (by omega)
  have ggt32 : decide (32 < (wrap32 (Int.tmod a0 128))) = true := decide_eq_true (by omega)
  have e40 : ((wrap32 (Int.tmod a0 128)) == 40) = false := beq_eq_false_iff_ne.mpr (by omega)
  have e41 : ((wrap32 (Int.tmod a0 128)) == 41) = false := beq_eq_false_iff_ne.mpr (by omega)
  have e91 : ((wrap32 (Int.tmod a0 128)) == 91) = false := beq_eq_false_iff_ne.mpr (by omega)
  have e93 : ((wrap32 (Int.tmod a0 128)) == 93) = false := beq_eq_false_iff_ne.mpr (by omega)
  have e123 : ((wrap32 (Int.tmod a0 128)) == 123) = false := beq_eq_false_iff_ne.mpr (by omega)
  have e125 : ((wrap32 (Int.tmod a0 128)) == 125) = false := beq_eq_false_iff_ne.mpr (by omega)
  have e60 : ((wrap32 (Int.tmod a0 128)) == 60) = false := beq_eq_false_iff_ne.mpr (by omega)
  have e62 : ((wrap32 (Int.tmod a0 128)) == 62) = false := beq_eq_false_iff_ne.mpr (by omega)
  have e9 : ((wrap32 (Int.tmod a0 128)) == 9) = false := beq_eq_false_iff_ne.mpr (by omega)
  have e10 : ((wrap32 (Int.tmod a0 128)) == 10) = false := beq_eq_false_iff_ne.mpr (by omega)
  have e12 : ((wrap32 (Int.tmod a0 128)) == 12) = false := beq_eq_false_iff_ne.mpr (by omega)
  have e13 : ((wrap32 (Int.tmod a0 128)) == 13) = false := beq_eq_false_iff_ne.mpr (by omega)
  have e32 : ((wrap32 (Int.tmod a0 128)) == 32) = false := beq_eq_false_iff_ne.mpr (by omega)
  clear h0 h1
  go_enter Tryd.func7, Tryd.ntmps7
  go_wp2_with (first | (go_at_call 10; (refine (props_Class.calls (wrap32 (Int.tmod a0 128)) 14 _ HK.out).mono ?_); rintro e w4 ⟨rfl, hb⟩; have n0_ := Aside0.mk (below_step (BB HB) hb); clear HB; have HB := n0_; clear n0_ hb) | (go_at_call 15; (refine (props_Mirror.calls (wrap32 (Int.tmod a0 128)) (wrap32 (Int.tmod a0 128)) false _ HM.out (LaidW.below HG.out (BB HB))).mono ?_); rintro e w5 ⟨rfl, hb⟩; have n0_ := Aside0.mk (below_step (BB HB) hb); clear HB; have HB := n0_; clear n0_ hb) | (go_at_call 17; (refine (props_Space.calls (wrap32 (Int.tmod a0 128)) false _ HS.out).mono ?_); rintro e w6 ⟨rfl, ⟨nd, rfl⟩⟩) | (go_at_call 12; (refine (selvedgelaw01_works.calls true _ (by kernel_rfl)).mono ?_); rintro e w7 ⟨rfl, hb⟩; have n0_ := Aside0.mk (below_step (BB HB) hb); clear HB; have HB := n0_; clear n0_ hb))
  go_ret
  exact ⟨rfl, BB HB⟩
theorem asc16_all : ((List.range 1).all fun n => clsOf ((n : Int) + 43) == 5 && (mirOf ((n : Int) + 43) == ((n : Int) + 43, false)) && props_Space.f ((n : Int) + 43) == some false) = true := by kernel_rfl
set_option maxHeartbeats 8000000 in
set_option maxRecDepth 100000 in
theorem asc16 (a0 : Int) (w : World) (h0 : 43 ≤ (wrap32 (Int.tmod a0 128))) (h1 : (wrap32 (Int.tmod a0 128)) ≤ 43) (hG : LaidW w) : Calls Tryd.prog 7 #[.int .u8 a0] w fun e w' => e = .returned (.bool true) ∧ Below w.heap.size w w' := by
  have HG := Aside0.mk hG; clear hG
  have HB := Aside0.mk (Below.refl w.heap.size w)
  have hall := (List.all_eq_true.1 asc16_all) ((wrap32 (Int.tmod a0 128)) - 43).toNat (by rw [List.mem_range]; omega)
  rw [show ((((wrap32 (Int.tmod a0 128)) - 43).toNat : Nat) : Int) + 43 = (wrap32 (Int.tmod a0 128)) by omega] at hall
  simp only [Bool.and_eq_true, beq_iff_eq] at hall
  have HK := Aside0.mk (show props_Class.f (wrap32 (Int.tmod a0 128)) = some 5 by unfold props_Class.f; rw [hall.1.1])
  have HM := Aside0.mk (show props_Mirror.f (wrap32 (Int.tmod a0 128)) = some ((wrap32 (Int.tmod a0 128)), false) by unfold props_Mirror.f; rw [hall.1.2])
  have HS := Aside0.mk hall.2; clear hall
  have gge97 : decide (97 ≤ (wrap32 (Int.tmod a0 128))) = false := decide_eq_false (by omega)
  have gle122 : decide ((wrap32 (Int.tmod a0 128)) ≤ 122) = true := decide_eq_true (by omega)
  have gge65 : decide (65 ≤ (wrap32 (Int.tmod a0 128))) = false := decide_eq_false (by omega)
  have gle90 : decide ((wrap32 (Int.tmod a0 128)) ≤ 90) = true := decide_eq_true (by omega)
  have gge48 : decide (48 ≤ (wrap32 (Int.tmod a0 128))) = false := decide_eq_false (by omega)
  have gle57 : decide ((wrap32 (Int.tmod a0 128)) ≤ 57) = true := decide_eq_true (by omega)
  have ggt32 : decide (32 < (wrap32 (Int.tmod a0 128))) = true := decide_eq_true (by omega)
  have e40 : ((wrap32 (Int.tmod a0 128)) == 40) = false := beq_eq_false_iff_ne.mpr (by omega)
  have e41 : ((wrap32 (Int.tmod a0 128)) == 41) = false := beq_eq_false_iff_ne.mpr (by omega)
  have e91 : ((wrap32 (Int.tmod a0 128)) == 91) = false := beq_eq_false_iff_ne.mpr (by omega)
  have e93 : ((wrap32 (Int.tmod a0 128)) == 93) = false := beq_eq_false_iff_ne.mpr (by omega)
  have e123 : ((wrap32 (Int.tmod a0 128)) == 123) = false := beq_eq_false_iff_ne.mpr (by omega)
  have e125 : ((wrap32 (Int.tmod a0 128)) == 125) = false := beq_eq_false_iff_ne.mpr (by omega)
  have e60 : ((wrap32 (Int.tmod a0 128)) == 60) = false := beq_eq_false_iff_ne.mpr (by omega)
  have e62 : ((wrap32 (Int.tmod a0 128)) == 62) = false := beq_eq_false_iff_ne.mpr (by omega)
  have e9 : ((wrap32 (Int.tmod a0 128)) == 9) = false := beq_eq_false_iff_ne.mpr (by omega)
  have e10 : ((wrap32 (Int.tmod a0 128)) == 10) = false := beq_eq_false_iff_ne.mpr (by omega)
  have e12 : ((wrap32 (Int.tmod a0 128)) == 12) = false := beq_eq_false_iff_ne.mpr (by omega)
  have e13 : ((wrap32 (Int.tmod a0 128)) == 13) = false := beq_eq_false_iff_ne.mpr (by omega)
  have e32 : ((wrap32 (Int.tmod a0 128)) == 32) = false := beq_eq_false_iff_ne.mpr (by omega)
  clear h0 h1
  go_enter Tryd.func7, Tryd.ntmps7
  go_wp2_with (first | (go_at_call 10; (refine (props_Class.calls (wrap32 (Int.tmod a0 128)) 5 _ HK.out).mono ?_); rintro e w4 ⟨rfl, hb⟩; have n0_ := Aside0.mk (below_step (BB HB) hb); clear HB; have HB := n0_; clear n0_ hb) | (go_at_call 15; (refine (props_Mirror.calls (wrap32 (Int.tmod a0 128)) (wrap32 (Int.tmod a0 128)) false _ HM.out (LaidW.below HG.out (BB HB))).mono ?_); rintro e w5 ⟨rfl, hb⟩; have n0_ := Aside0.mk (below_step (BB HB) hb); clear HB; have HB := n0_; clear n0_ hb) | (go_at_call 17; (refine (props_Space.calls (wrap32 (Int.tmod a0 128)) false _ HS.out).mono ?_); rintro e w6 ⟨rfl, ⟨nd, rfl⟩⟩) | (go_at_call 12; (refine (selvedgelaw01_works.calls true _ (by kernel_rfl)).mono ?_); rintro e w7 ⟨rfl, hb⟩; have n0_ := Aside0.mk (below_step (BB HB) hb); clear HB; have HB := n0_; clear n0_ hb))
  go_ret
  exact ⟨rfl, BB HB⟩
theorem asc17_all : ((List.range 1).all fun n => clsOf ((n : Int) + 44) == 8 && (mirOf ((n : Int) + 44) == ((n : Int) + 44, false)) && props_Space.f ((n : Int) + 44) == some false) = true := by kernel_rfl
set_option maxHeartbeats 8000000 in
set_option maxRecDepth 100000 in
theorem asc17 (a0 : Int) (w : World) (h0 : 44 ≤ (wrap32 (Int.tmod a0 128))) (h1 : (wrap32 (Int.tmod a0 128)) ≤ 44) (hG : LaidW w) : Calls Tryd.prog 7 #[.int .u8 a0] w fun e w' => e = .returned (.bool true) ∧ Below w.heap.size w w' := by
  have HG := Aside0.mk hG; clear hG
  have HB := Aside0.mk (Below.refl w.heap.size w)
  have hall := (List.all_eq_true.1 asc17_all) ((wrap32 (Int.tmod a0 128)) - 44).toNat (by rw [List.mem_range]; omega)
  rw [show ((((wrap32 (Int.tmod a0 128)) - 44).toNat : Nat) : Int) + 44 = (wrap32 (Int.tmod a0 128)) by omega] at hall
  simp only [Bool.and_eq_true, beq_iff_eq] at hall
  have HK := Aside0.mk (show props_Class.f (wrap32 (Int.tmod a0 128)) = some 8 by unfold props_Class.f; rw [hall.1.1])
  have HM := Aside0.mk (show props_Mirror.f (wrap32 (Int.tmod a0 128)) = some ((wrap32 (Int.tmod a0 128)), false) by unfold props_Mirror.f; rw [hall.1.2])
  have HS := Aside0.mk hall.2; clear hall
  have gge97 : decide (97 ≤ (wrap32 (Int.tmod a0 128))) = false := decide_eq_false (by omega)
  have gle122 : decide ((wrap32 (Int.tmod a0 128)) ≤ 122) = true := decide_eq_true (by omega)
  have gge65 : decide (65 ≤ (wrap32 (Int.tmod a0 128))) = false := decide_eq_false (by omega)
  have gle90 : decide ((wrap32 (Int.tmod a0 128)) ≤ 90) = true := decide_eq_true (by omega)
  have gge48 : decide (48 ≤ (wrap32 (Int.tmod a0 128))) = false := decide_eq_false (by omega)
  have gle57 : decide ((wrap32 (Int.tmod a0 128)) ≤ 57) = true := decide_eq_true (by omega)
  have ggt32 : decide (32 < (wrap32 (Int.tmod a0 128))) = true := decide_eq_true (by omega)
  have e40 : ((wrap32 (Int.tmod a0 128)) == 40) = false := beq_eq_false_iff_ne.mpr (by omega)
  have e41 : ((wrap32 (Int.tmod a0 128)) == 41) = false := beq_eq_false_iff_ne.mpr (by omega)
  have e91 : ((wrap32 (Int.tmod a0 128)) == 91) = false := beq_eq_false_iff_ne.mpr (by omega)
  have e93 : ((wrap32 (Int.tmod a0 128)) == 93) = false := beq_eq_false_iff_ne.mpr (by omega)
  have e123 : ((wrap32 (Int.tmod a0 128)) == 123) = false := beq_eq_false_iff_ne.mpr (by omega)
  have e125 : ((wrap32 (Int.tmod a0 128)) == 125) = false := beq_eq_false_iff_ne.mpr (by omega)
  have e60 : ((wrap32 (Int.tmod a0 128)) == 60) = false := beq_eq_false_iff_ne.mpr (by omega)
  have e62 : ((wrap32 (Int.tmod a0 128)) == 62) = false := beq_eq_false_iff_ne.mpr (by omega)
  have e9 : ((wrap32 (Int.tmod a0 128)) == 9) = false := beq_eq_false_iff_ne.mpr (by omega)
  have e10 : ((wrap32 (Int.tmod a0 128)) == 10) = false := beq_eq_false_iff_ne.mpr (by omega)
  have e12 : ((wrap32 (Int.tmod a0 128)) == 12) = false := beq_eq_false_iff_ne.mpr (by omega)
  have e13 : ((wrap32 (Int.tmod a0 128)) == 13) = false := beq_eq_false_iff_ne.mpr (by omega)
  have e32 : ((wrap32 (Int.tmod a0 128)) == 32) = false := beq_eq_false_iff_ne.mpr (by omega)
  clear h0 h1
  go_enter Tryd.func7, Tryd.ntmps7
  go_wp2_with (first | (go_at_call 10; (refine (props_Class.calls (wrap32 (Int.tmod a0 128)) 8 _ HK.out).mono ?_); rintro e w4 ⟨rfl, hb⟩; have n0_ := Aside0.mk (below_step (BB HB) hb); clear HB; have HB := n0_; clear n0_ hb) | (go_at_call 15; (refine (props_Mirror.calls (wrap32 (Int.tmod a0 128)) (wrap32 (Int.tmod a0 128)) false _ HM.out (LaidW.below HG.out (BB HB))).mono ?_); rintro e w5 ⟨rfl, hb⟩; have n0_ := Aside0.mk (below_step (BB HB) hb); clear HB; have HB := n0_; clear n0_ hb) | (go_at_call 17; (refine (props_Space.calls (wrap32 (Int.tmod a0 128)) false _ HS.out).mono ?_); rintro e w6 ⟨rfl, ⟨nd, rfl⟩⟩) | (go_at_call 12; (refine (selvedgelaw01_works.calls true _ (by kernel_rfl)).mono ?_); rintro e w7 ⟨rfl, hb⟩; have n0_ := Aside0.mk (below_step (BB HB) hb); clear HB; have HB := n0_; clear n0_ hb))
  go_ret
  exact ⟨rfl, BB HB⟩
theorem asc18_all : ((List.range 1).all fun n => clsOf ((n : Int) + 45) == 5 && (mirOf ((n : Int) + 45) == ((n : Int) + 45, false)) && props_Space.f ((n : Int) + 45) == some false) = true := by kernel_rfl
set_option maxHeartbeats 8000000 in
set_option maxRecDepth 100000 in
theorem asc18 (a0 : Int) (w : World) (h0 : 45 ≤ (wrap32 (Int.tmod a0 128))) (h1 : (wrap32 (Int.tmod a0 128)) ≤ 45) (hG : LaidW w) : Calls Tryd.prog 7 #[.int .u8 a0] w fun e w' => e = .returned (.bool true) ∧ Below w.heap.size w w' := by
  have HG := Aside0.mk hG; clear hG
  have HB := Aside0.mk (Below.refl w.heap.size w)
  have hall := (List.all_eq_true.1 asc18_all) ((wrap32 (Int.tmod a0 128)) - 45).toNat (by rw [List.mem_range]; omega)
  rw [show ((((wrap32 (Int.tmod a0 128)) - 45).toNat : Nat) : Int) + 45 = (wrap32 (Int.tmod a0 128)) by omega] at hall
  simp only [Bool.and_eq_true, beq_iff_eq] at hall
  have HK := Aside0.mk (show props_Class.f (wrap32 (Int.tmod a0 128)) = some 5 by unfold props_Class.f; rw [hall.1.1])
  have HM := Aside0.mk (show props_Mirror.f (wrap32 (Int.tmod a0 128)) = some ((wrap32 (Int.tmod a0 128)), false) by unfold props_Mirror.f; rw [hall.1.2])
  have HS := Aside0.mk hall.2; clear hall
  have gge97 : decide (97 ≤ (wrap32 (Int.tmod a0 128))) = false := decide_eq_false (by omega)
  have gle122 : decide ((wrap32 (Int.tmod a0 128)) ≤ 122) = true := decide_eq_true (by omega)
  have gge65 : decide (65 ≤ (wrap32 (Int.tmod a0 128))) = false := decide_eq_false (by omega)
  have gle90 : decide ((wrap32 (Int.tmod a0 128)) ≤ 90) = true := decide_eq_true (by omega)
  have gge48 : decide (48 ≤ (wrap32 (Int.tmod a0 128))) = false := decide_eq_false (by omega)
  have gle57 : decide ((wrap32 (Int.tmod a0 128)) ≤ 57) = true := decide_eq_true (by omega)
  have ggt32 : decide (32 < (wrap32 (Int.tmod a0 128))) = true := decide_eq_true (by omega)
  have e40 : ((wrap32 (Int.tmod a0 128)) == 40) = false := beq_eq_false_iff_ne.mpr (by omega)
  have e41 : ((wrap32 (Int.tmod a0 128)) == 41) = false := beq_eq_false_iff_ne.mpr (by omega)
  have e91 : ((wrap32 (Int.tmod a0 128)) == 91) = false := beq_eq_false_iff_ne.mpr (by omega)
  have e93 : ((wrap32 (Int.tmod a0 128)) == 93) = false := beq_eq_false_iff_ne.mpr (by omega)
  have e123 : ((wrap32 (Int.tmod a0 128)) == 123) = false := beq_eq_false_iff_ne.mpr (by omega)
  have e125 : ((wrap32 (Int.tmod a0 128)) == 125) = false := beq_eq_false_iff_ne.mpr (by omega)
  have e60 : ((wrap32 (Int.tmod a0 128)) == 60) = false := beq_eq_false_iff_ne.mpr (by omega)
  have e62 : ((wrap32 (Int.tmod a0 128)) == 62) = false := beq_eq_false_iff_ne.mpr (by omega)
  have e9 : ((wrap32 (Int.tmod a0 128)) == 9) = false := beq_eq_false_iff_ne.mpr (by omega)
  have e10 : ((wrap32 (Int.tmod a0 128)) == 10) = false := beq_eq_false_iff_ne.mpr (by omega)
  have e12 : ((wrap32 (Int.tmod a0 128)) == 12) = false := beq_eq_false_iff_ne.mpr (by omega)
  have e13 : ((wrap32 (Int.tmod a0 128)) == 13) = false := beq_eq_false_iff_ne.mpr (by omega)
  have e32 : ((wrap32 (Int.tmod a0 128)) == 32) = false := beq_eq_false_iff_ne.mpr (by omega)
  clear h0 h1
  go_enter Tryd.func7, Tryd.ntmps7
  go_wp2_with (first | (go_at_call 10; (refine (props_Class.calls (wrap32 (Int.tmod a0 128)) 5 _ HK.out).mono ?_); rintro e w4 ⟨rfl, hb⟩; have n0_ := Aside0.mk (below_step (BB HB) hb); clear HB; have HB := n0_; clear n0_ hb) | (go_at_call 15; (refine (props_Mirror.calls (wrap32 (Int.tmod a0 128)) (wrap32 (Int.tmod a0 128)) false _ HM.out (LaidW.below HG.out (BB HB))).mono ?_); rintro e w5 ⟨rfl, hb⟩; have n0_ := Aside0.mk (below_step (BB HB) hb); clear HB; have HB := n0_; clear n0_ hb) | (go_at_call 17; (refine (props_Space.calls (wrap32 (Int.tmod a0 128)) false _ HS.out).mono ?_); rintro e w6 ⟨rfl, ⟨nd, rfl⟩⟩) | (go_at_call 12; (refine (selvedgelaw01_works.calls true _ (by kernel_rfl)).mono ?_); rintro e w7 ⟨rfl, hb⟩; have n0_ := Aside0.mk (below_step (BB HB) hb); clear HB; have HB := n0_; clear n0_ hb))
  go_ret
  exact ⟨rfl, BB HB⟩
theorem asc19_all : ((List.range 2).all fun n => clsOf ((n : Int) + 46) == 8 && (mirOf ((n : Int) + 46) == ((n : Int) + 46, false)) && props_Space.f ((n : Int) + 46) == some false) = true := by kernel_rfl
set_option maxHeartbeats 8000000 in
set_option maxRecDepth 100000 in
theorem asc19 (a0 : Int) (w : World) (h0 : 46 ≤ (wrap32 (Int.tmod a0 128))) (h1 : (wrap32 (Int.tmod a0 128)) ≤ 47) (hG : LaidW w) : Calls Tryd.prog 7 #[.int .u8 a0] w fun e w' => e = .returned (.bool true) ∧ Below w.heap.size w w' := by
  have HG := Aside0.mk hG; clear hG
  have HB := Aside0.mk (Below.refl w.heap.size w)
  have hall := (List.all_eq_true.1 asc19_all) ((wrap32 (Int.tmod a0 128)) - 46).toNat (by rw [List.mem_range]; omega)
  rw [show ((((wrap32 (Int.tmod a0 128)) - 46).toNat : Nat) : Int) + 46 = (wrap32 (Int.tmod a0 128)) by omega] at hall
  simp only [Bool.and_eq_true, beq_iff_eq] at hall
  have HK := Aside0.mk (show props_Class.f (wrap32 (Int.tmod a0 128)) = some 8 by unfold props_Class.f; rw [hall.1.1])
  have HM := Aside0.mk (show props_Mirror.f (wrap32 (Int.tmod a0 128)) = some ((wrap32 (Int.tmod a0 128)), false) by unfold props_Mirror.f; rw [hall.1.2])
  have HS := Aside0.mk hall.2; clear hall
  have gge97 : decide (97 ≤ (wrap32 (Int.tmod a0 128))) = false := decide_eq_false (by omega)
  have gle122 : decide ((wrap32 (Int.tmod a0 128)) ≤ 122) = true := decide_eq_true (by omega)
  have gge65 : decide (65 ≤ (wrap32 (Int.tmod a0 128))) = false := decide_eq_false (by omega)
  have gle90 : decide ((wrap32 (Int.tmod a0 128)) ≤ 90) = true := decide_eq_true (by omega)
  have gge48 : decide (48 ≤ (wrap32 (Int.tmod a0 128))) = false := decide_eq_false (by omega)
  have gle57 : decide ((wrap32 (Int.tmod a0 128)) ≤ 57) = true := decide_eq_true (by omega)
  have ggt32 : decide (32 < (wrap32 (Int.tmod a0 128))) = true := decide_eq_true (by omega)
  have e40 : ((wrap32 (Int.tmod a0 128)) == 40) = false := beq_eq_false_iff_ne.mpr (by omega)
  have e41 : ((wrap32 (Int.tmod a0 128)) == 41) = false := beq_eq_false_iff_ne.mpr (by omega)
  have e91 : ((wrap32 (Int.tmod a0 128)) == 91) = false := beq_eq_false_iff_ne.mpr (by omega)
  have e93 : ((wrap32 (Int.tmod a0 128)) == 93) = false := beq_eq_false_iff_ne.mpr (by omega)
  have e123 : ((wrap32 (Int.tmod a0 128)) == 123) = false := beq_eq_false_iff_ne.mpr (by omega)
  have e125 : ((wrap32 (Int.tmod a0 128)) == 125) = false := beq_eq_false_iff_ne.mpr (by omega)
  have e60 : ((wrap32 (Int.tmod a0 128)) == 60) = false := beq_eq_false_iff_ne.mpr (by omega)
  have e62 : ((wrap32 (Int.tmod a0 128)) == 62) = false := beq_eq_false_iff_ne.mpr (by omega)
  have e9 : ((wrap32 (Int.tmod a0 128)) == 9) = false := beq_eq_false_iff_ne.mpr (by omega)
  have e10 : ((wrap32 (Int.tmod a0 128)) == 10) = false := beq_eq_false_iff_ne.mpr (by omega)
  have e12 : ((wrap32 (Int.tmod a0 128)) == 12) = false := beq_eq_false_iff_ne.mpr (by omega)
  have e13 : ((wrap32 (Int.tmod a0 128)) == 13) = false := beq_eq_false_iff_ne.mpr (by omega)
  have e32 : ((wrap32 (Int.tmod a0 128)) == 32) = false := beq_eq_false_iff_ne.mpr (by omega)
  clear h0 h1
  go_enter Tryd.func7, Tryd.ntmps7
  go_wp2_with (first | (go_at_call 10; (refine (props_Class.calls (wrap32 (Int.tmod a0 128)) 8 _ HK.out).mono ?_); rintro e w4 ⟨rfl, hb⟩; have n0_ := Aside0.mk (below_step (BB HB) hb); clear HB; have HB := n0_; clear n0_ hb) | (go_at_call 15; (refine (props_Mirror.calls (wrap32 (Int.tmod a0 128)) (wrap32 (Int.tmod a0 128)) false _ HM.out (LaidW.below HG.out (BB HB))).mono ?_); rintro e w5 ⟨rfl, hb⟩; have n0_ := Aside0.mk (below_step (BB HB) hb); clear HB; have HB := n0_; clear n0_ hb) | (go_at_call 17; (refine (props_Space.calls (wrap32 (Int.tmod a0 128)) false _ HS.out).mono ?_); rintro e w6 ⟨rfl, ⟨nd, rfl⟩⟩) | (go_at_call 12; (refine (selvedgelaw01_works.calls true _ (by kernel_rfl)).mono ?_); rintro e w7 ⟨rfl, hb⟩; have n0_ := Aside0.mk (below_step (BB HB) hb); clear HB; have HB := n0_; clear n0_ hb))
  go_ret
  exact ⟨rfl, BB HB⟩
end Go.Proofs.YtmhebfohlebaaaaDoor.Q

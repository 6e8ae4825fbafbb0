import Derived.Test.YtgfkbijmchoolaaDoorSh
import Derived.Test.YtgfkbijmchoolaaDoorP0
import Derived.Test.YtgfkbijmchoolaaDoorP4
import Derived.Test.YtgfkbijmchoolaaDoorP5
namespace Go.Proofs.YtgfkbijmchoolaaDoor.P
open Go.Proofs.YtgfkbijmchoolaaDoorH Go.Proofs.YtgfkbijmchoolaaDoorSh Go.RowKit Go.Proofs.YtgfkbijmchoolaaDoorW.PrintWords Go.Proofs.YtgfkbijmchoolaaDoorW.PrintLast Go.Proofs.YtgfkbijmchoolaaDoorW.PrintMore
attribute [local go_sem] max2_int min2_int max_two min_two max_three min_three max_four min_four
set_option linter.unusedVariables false
set_option linter.unusedSimpArgs false
def selvedgeref01_Brackets.f  : Option ((List (S68))) := some (([(⟨40, 41⟩ : S68), (⟨91, 93⟩ : S68), (⟨123, 125⟩ : S68), (⟨8261, 8262⟩ : S68), (⟨8317, 8318⟩ : S68), (⟨8333, 8334⟩ : S68), (⟨8968, 8969⟩ : S68), (⟨8970, 8971⟩ : S68), (⟨9001, 9002⟩ : S68), (⟨10214, 10215⟩ : S68), (⟨10216, 10217⟩ : S68), (⟨10218, 10219⟩ : S68), (⟨10220, 10221⟩ : S68), (⟨10222, 10223⟩ : S68), (⟨12296, 12297⟩ : S68), (⟨12298, 12299⟩ : S68), (⟨12300, 12301⟩ : S68), (⟨12302, 12303⟩ : S68), (⟨12304, 12305⟩ : S68), (⟨12308, 12309⟩ : S68), (⟨12310, 12311⟩ : S68), (⟨12312, 12313⟩ : S68), (⟨12314, 12315⟩ : S68)] : List (S68)))
set_option maxHeartbeats 80000000 in
set_option maxRecDepth 100000 in
theorem selvedgeref01_Brackets.calls  (r : List (S68)) (w : World) (h : selvedgeref01_Brackets.f  = some r) :
  Calls Tryd.prog 39 #[] w fun e w' => ∃ v0_ : Value, e = .returned (v0_) ∧ Kd.R k68 68 w' w.heap.size (fun _ => True) v0_ r ∧ Below w.heap.size w w' := by
 have hu68 := Tryd.underlying68
 have HB := Aside0.mk (Below.refl w.heap.size w)
 have H : (some (([(⟨40, 41⟩ : S68), (⟨91, 93⟩ : S68), (⟨123, 125⟩ : S68), (⟨8261, 8262⟩ : S68), (⟨8317, 8318⟩ : S68), (⟨8333, 8334⟩ : S68), (⟨8968, 8969⟩ : S68), (⟨8970, 8971⟩ : S68), (⟨9001, 9002⟩ : S68), (⟨10214, 10215⟩ : S68), (⟨10216, 10217⟩ : S68), (⟨10218, 10219⟩ : S68), (⟨10220, 10221⟩ : S68), (⟨10222, 10223⟩ : S68), (⟨12296, 12297⟩ : S68), (⟨12298, 12299⟩ : S68), (⟨12300, 12301⟩ : S68), (⟨12302, 12303⟩ : S68), (⟨12304, 12305⟩ : S68), (⟨12308, 12309⟩ : S68), (⟨12310, 12311⟩ : S68), (⟨12312, 12313⟩ : S68), (⟨12314, 12315⟩ : S68)] : List (S68)))) = some r := h
 clear h
 obtain ⟨y250, hy250⟩ : ∃ y_ : List (S68), y_ = (([(⟨40, 41⟩ : S68), (⟨91, 93⟩ : S68), (⟨123, 125⟩ : S68), (⟨8261, 8262⟩ : S68), (⟨8317, 8318⟩ : S68), (⟨8333, 8334⟩ : S68), (⟨8968, 8969⟩ : S68), (⟨8970, 8971⟩ : S68), (⟨9001, 9002⟩ : S68), (⟨10214, 10215⟩ : S68), (⟨10216, 10217⟩ : S68), (⟨10218, 10219⟩ : S68), (⟨10220, 10221⟩ : S68), (⟨10222, 10223⟩ : S68), (⟨12296, 12297⟩ : S68), (⟨12298, 12299⟩ : S68), (⟨12300, 12301⟩ : S68), (⟨12302, 12303⟩ : S68), (⟨12304, 12305⟩ : S68), (⟨12308, 12309⟩ : S68), (⟨12310, 12311⟩ : S68), (⟨12312, 12313⟩ : S68), (⟨12314, 12315⟩ : S68)] : List (S68))) := ⟨_, rfl⟩
 replace H : (some y250) = some r := by first | (rw [hy250]; with_reducible exact H) | (have H2_ := (Option.bind_some _ _).symm.trans H; rw [hy250]; with_reducible exact H2_) | (have H2_ := (Option.bind_some _ _).symm.trans H; with_reducible exact H2_) | with_reducible exact H | (rw [hy250]; exact H) | exact H
 have Ny250 := Aside0.mk hy250; clear hy250; obtain rfl := Option.some.inj H
 go_enter Tryd.func39, Tryd.ntmps39
 go_wp2_with (first | ((with_reducible refine gate_dst (N := 24) rfl ?_); refine Kd.R_lit k68 _ 68 ?hg (N := 24) ?hd (xs := ([(⟨40, 41⟩ : S68), (⟨91, 93⟩ : S68), (⟨123, 125⟩ : S68), (⟨8261, 8262⟩ : S68), (⟨8317, 8318⟩ : S68), (⟨8333, 8334⟩ : S68), (⟨8968, 8969⟩ : S68), (⟨8970, 8971⟩ : S68), (⟨9001, 9002⟩ : S68), (⟨10214, 10215⟩ : S68), (⟨10216, 10217⟩ : S68), (⟨10218, 10219⟩ : S68), (⟨10220, 10221⟩ : S68), (⟨10222, 10223⟩ : S68), (⟨12296, 12297⟩ : S68), (⟨12298, 12299⟩ : S68), (⟨12300, 12301⟩ : S68), (⟨12302, 12303⟩ : S68), (⟨12304, 12305⟩ : S68), (⟨12308, 12309⟩ : S68), (⟨12310, 12311⟩ : S68), (⟨12312, 12313⟩ : S68), (⟨12314, 12315⟩ : S68)] : List (S68))) (inner := [.int .i32 40, .int .i32 41, .int .i32 91, .int .i32 93, .int .i32 123, .int .i32 125, .int .i32 8261, .int .i32 8262, .int .i32 8317, .int .i32 8318, .int .i32 8333, .int .i32 8334, .int .i32 8968, .int .i32 8969, .int .i32 8970, .int .i32 8971, .int .i32 9001, .int .i32 9002, .int .i32 10214, .int .i32 10215, .int .i32 10216, .int .i32 10217, .int .i32 10218, .int .i32 10219, .int .i32 10220, .int .i32 10221, .int .i32 10222, .int .i32 10223, .int .i32 12296, .int .i32 12297, .int .i32 12298, .int .i32 12299, .int .i32 12300, .int .i32 12301, .int .i32 12302, .int .i32 12303, .int .i32 12304, .int .i32 12305, .int .i32 12308, .int .i32 12309, .int .i32 12310, .int .i32 12311, .int .i32 12312, .int .i32 12313, .int .i32 12314, .int .i32 12315]) (ok := fun _ => True) (okp := fun _ => True) ?hr ?hp (fun _ hk => hk) trivial (Below.refl _ _) (Nat.le_refl _) (by simp) ?_; (case hd => rfl); (case hg => rfl); (case hr => first | (go_simp; done) | (go_simp; rfl)); (case hp => exact (Reps.c2 (show Kd.M k68 _ _ _ (⟨40, 41⟩ : S68) [.int .i32 40, .int .i32 41] from (k68_mkM _ _ _ (⟨40, 41⟩ : S68) )) (Reps.c2 (show Kd.M k68 _ _ _ (⟨91, 93⟩ : S68) [.int .i32 91, .int .i32 93] from (k68_mkM _ _ _ (⟨91, 93⟩ : S68) )) (Reps.c2 (show Kd.M k68 _ _ _ (⟨123, 125⟩ : S68) [.int .i32 123, .int .i32 125] from (k68_mkM _ _ _ (⟨123, 125⟩ : S68) )) (Reps.c2 (show Kd.M k68 _ _ _ (⟨8261, 8262⟩ : S68) [.int .i32 8261, .int .i32 8262] from (k68_mkM _ _ _ (⟨8261, 8262⟩ : S68) )) (Reps.c2 (show Kd.M k68 _ _ _ (⟨8317, 8318⟩ : S68) [.int .i32 8317, .int .i32 8318] from (k68_mkM _ _ _ (⟨8317, 8318⟩ : S68) )) (Reps.c2 (show Kd.M k68 _ _ _ (⟨8333, 8334⟩ : S68) [.int .i32 8333, .int .i32 8334] from (k68_mkM _ _ _ (⟨8333, 8334⟩ : S68) )) (Reps.c2 (show Kd.M k68 _ _ _ (⟨8968, 8969⟩ : S68) [.int .i32 8968, .int .i32 8969] from (k68_mkM _ _ _ (⟨8968, 8969⟩ : S68) )) (Reps.c2 (show Kd.M k68 _ _ _ (⟨8970, 8971⟩ : S68) [.int .i32 8970, .int .i32 8971] from (k68_mkM _ _ _ (⟨8970, 8971⟩ : S68) )) (Reps.c2 (show Kd.M k68 _ _ _ (⟨9001, 9002⟩ : S68) [.int .i32 9001, .int .i32 9002] from (k68_mkM _ _ _ (⟨9001, 9002⟩ : S68) )) (Reps.c2 (show Kd.M k68 _ _ _ (⟨10214, 10215⟩ : S68) [.int .i32 10214, .int .i32 10215] from (k68_mkM _ _ _ (⟨10214, 10215⟩ : S68) )) (Reps.c2 (show Kd.M k68 _ _ _ (⟨10216, 10217⟩ : S68) [.int .i32 10216, .int .i32 10217] from (k68_mkM _ _ _ (⟨10216, 10217⟩ : S68) )) (Reps.c2 (show Kd.M k68 _ _ _ (⟨10218, 10219⟩ : S68) [.int .i32 10218, .int .i32 10219] from (k68_mkM _ _ _ (⟨10218, 10219⟩ : S68) )) (Reps.c2 (show Kd.M k68 _ _ _ (⟨10220, 10221⟩ : S68) [.int .i32 10220, .int .i32 10221] from (k68_mkM _ _ _ (⟨10220, 10221⟩ : S68) )) (Reps.c2 (show Kd.M k68 _ _ _ (⟨10222, 10223⟩ : S68) [.int .i32 10222, .int .i32 10223] from (k68_mkM _ _ _ (⟨10222, 10223⟩ : S68) )) (Reps.c2 (show Kd.M k68 _ _ _ (⟨12296, 12297⟩ : S68) [.int .i32 12296, .int .i32 12297] from (k68_mkM _ _ _ (⟨12296, 12297⟩ : S68) )) (Reps.c2 (show Kd.M k68 _ _ _ (⟨12298, 12299⟩ : S68) [.int .i32 12298, .int .i32 12299] from (k68_mkM _ _ _ (⟨12298, 12299⟩ : S68) )) (Reps.c2 (show Kd.M k68 _ _ _ (⟨12300, 12301⟩ : S68) [.int .i32 12300, .int .i32 12301] from (k68_mkM _ _ _ (⟨12300, 12301⟩ : S68) )) (Reps.c2 (show Kd.M k68 _ _ _ (⟨12302, 12303⟩ : S68) [.int .i32 12302, .int .i32 12303] from (k68_mkM _ _ _ (⟨12302, 12303⟩ : S68) )) (Reps.c2 (show Kd.M k68 _ _ _ (⟨12304, 12305⟩ : S68) [.int .i32 12304, .int .i32 12305] from (k68_mkM _ _ _ (⟨12304, 12305⟩ : S68) )) (Reps.c2 (show Kd.M k68 _ _ _ (⟨12308, 12309⟩ : S68) [.int .i32 12308, .int .i32 12309] from (k68_mkM _ _ _ (⟨12308, 12309⟩ : S68) )) (Reps.c2 (show Kd.M k68 _ _ _ (⟨12310, 12311⟩ : S68) [.int .i32 12310, .int .i32 12311] from (k68_mkM _ _ _ (⟨12310, 12311⟩ : S68) )) (Reps.c2 (show Kd.M k68 _ _ _ (⟨12312, 12313⟩ : S68) [.int .i32 12312, .int .i32 12313] from (k68_mkM _ _ _ (⟨12312, 12313⟩ : S68) )) (Reps.c2 (show Kd.M k68 _ _ _ (⟨12314, 12315⟩ : S68) [.int .i32 12314, .int .i32 12315] from (k68_mkM _ _ _ (⟨12314, 12315⟩ : S68) )) (Reps.none _ _))))))))))))))))))))))))); intro v251 w1 ho2 hb hg_ hnew_; clear hg_ hnew_; (first | rw [← Ny250.out] at ho2 | (simp only [Int.reduceToNat] at ho2; rw [← Ny250.out] at ho2)); have n0_ := Aside0.mk (Kd.R_lower ho2 (below_size (BB HB))); have n1_ := Aside0.mk (below_step (BB HB) hb); clear HB; have HO252 := n0_; have HB := n1_; clear n0_ n1_; clear hb ho2))
 go_ret
 exact ⟨_, FF, RR HO252, BB HB⟩
def selvedgeref01_Mirror.l0 : Nat → Int → List (S68) → Int → Option (Int × Bool)
 | 0, _, _, _ => none
 | k + 1, x0, x4, x5 => if x5 < (x4.length : Int) then (if 0 ≤ x5 then (if x0 = ((rd_T68 x4 x5).f0) then (some ((rd_T68 x4 x5).f1, true)) else (if x0 = ((rd_T68 x4 x5).f1) then (some ((rd_T68 x4 x5).f0, true)) else (selvedgeref01_Mirror.l0 k x0 x4 (wrap64 (x5 + 1))))) else (none)) else (some (x0, false))
def selvedgeref01_Mirror.f (k : Nat) (a0 : Int) : Option (Int × Bool) := (some (([(⟨60, 62⟩ : S68), (⟨171, 187⟩ : S68), (⟨8249, 8250⟩ : S68), (⟨8712, 8715⟩ : S68), (⟨8804, 8805⟩ : S68), (⟨8810, 8811⟩ : S68), (⟨8834, 8835⟩ : S68)] : List (S68)) : List (S68))).bind fun y253 => ((selvedgeref01_Brackets.f).bind fun t256 => (if y253.length + t256.length < 17592186044416 then (selvedgeref01_Mirror.l0 k a0 (y253 ++ t256) 0) else (none)))
theorem selvedgeref01_Mirror.mono_l : ∀ k, (∀ y0 y1 y2, LeO (selvedgeref01_Mirror.l0 k y0 y1 y2) (selvedgeref01_Mirror.l0 (k + 1) y0 y1 y2))
 | 0 => fun _ _ _ r h => by simp [selvedgeref01_Mirror.l0] at h
 | k + 1 => by
  have ih0 := selvedgeref01_Mirror.mono_l k
  ·intro y0 y1 y2
   unfold selvedgeref01_Mirror.l0
   repeat' first
   | (with_reducible exact ih0 _ _ _)
   | (with_reducible exact LeO.refl _)
   | (with_reducible exact LeO.none _)
   | (with_reducible refine LeO.ite ?_ ?_)
   | (with_reducible refine LeO.bind ?_ (fun _ => ?_))
   | exact ih0 _ _ _
   | exact LeO.none _
   | refine LeO.ite ?_ ?_
   | refine LeO.bind ?_ (fun _ => ?_)
theorem selvedgeref01_Mirror.mono : ∀ a0 k, LeO (selvedgeref01_Mirror.f k a0) (selvedgeref01_Mirror.f (k + 1) a0) := by
 intro a0 k
 have ih0 := selvedgeref01_Mirror.mono_l k
 unfold selvedgeref01_Mirror.f
 repeat' first
   | (with_reducible exact ih0 _ _ _)
   | (with_reducible exact LeO.refl _)
   | (with_reducible exact LeO.none _)
   | (with_reducible refine LeO.ite ?_ ?_)
   | (with_reducible refine LeO.bind ?_ (fun _ => ?_))
   | exact ih0 _ _ _
   | exact LeO.none _
   | refine LeO.ite ?_ ?_
   | refine LeO.bind ?_ (fun _ => ?_)
set_option maxHeartbeats 80000000 in
set_option maxRecDepth 100000 in
theorem selvedgeref01_Mirror.calls (k : Nat) (a0 : Int) (r1 : Int) (r2 : Bool) (w : World) (h : selvedgeref01_Mirror.f k a0 = some (r1, r2)) :
  Calls Tryd.prog 34 #[.int .i32 a0] w fun e w' => e = .returned (.tuple #[.int .i32 r1, .bool r2]) ∧ Below w.heap.size w w' := by
 have hu68 := Tryd.underlying68
 have HB := Aside0.mk (Below.refl w.heap.size w)
 have H : ((some (([(⟨60, 62⟩ : S68), (⟨171, 187⟩ : S68), (⟨8249, 8250⟩ : S68), (⟨8712, 8715⟩ : S68), (⟨8804, 8805⟩ : S68), (⟨8810, 8811⟩ : S68), (⟨8834, 8835⟩ : S68)] : List (S68)) : List (S68))).bind fun y253 => ((selvedgeref01_Brackets.f).bind fun t256 => (if y253.length + t256.length < 17592186044416 then (selvedgeref01_Mirror.l0 k a0 (y253 ++ t256) 0) else (none)))) = some (r1, r2) := h
 clear h
 obtain ⟨y253, hy253⟩ : ∃ y_ : List (S68), y_ = (([(⟨60, 62⟩ : S68), (⟨171, 187⟩ : S68), (⟨8249, 8250⟩ : S68), (⟨8712, 8715⟩ : S68), (⟨8804, 8805⟩ : S68), (⟨8810, 8811⟩ : S68), (⟨8834, 8835⟩ : S68)] : List (S68))) := ⟨_, rfl⟩
 replace H : ((selvedgeref01_Brackets.f).bind fun t256 => (if y253.length + t256.length < 17592186044416 then (selvedgeref01_Mirror.l0 k a0 (y253 ++ t256) 0) else (none))) = some (r1, r2) := by first | (rw [hy253]; with_reducible exact H) | (have H2_ := (Option.bind_some _ _).symm.trans H; rw [hy253]; with_reducible exact H2_) | (have H2_ := (Option.bind_some _ _).symm.trans H; with_reducible exact H2_) | with_reducible exact H | (rw [hy253]; exact H) | exact H
 have Ny253 := Aside0.mk hy253; clear hy253; replace H := Option.bind_eq_some_iff.mp H; obtain ⟨t256, A20, H⟩ := H
 replace H : (if y253.length + t256.length < 17592186044416 then (selvedgeref01_Mirror.l0 k a0 (y253 ++ t256) 0) else (none)) = some (r1, r2) := H
 have A2 := Aside0.mk A20; clear A20; by_cases c3 : y253.length + t256.length < 17592186044416
 ·rw [if_pos c3] at H; have LMc3 := Aside0.mk c3; clear c3
  obtain ⟨y259, hy259⟩ : ∃ y_ : List (S68), y_ = (y253 ++ t256) := ⟨_, rfl⟩
  replace H : (selvedgeref01_Mirror.l0 k a0 y259 0) = some (r1, r2) := by first | (rw [hy259]; with_reducible exact H) | (have H2_ := (Option.bind_some _ _).symm.trans H; rw [hy259]; with_reducible exact H2_) | (have H2_ := (Option.bind_some _ _).symm.trans H; with_reducible exact H2_) | with_reducible exact H | (rw [hy259]; exact H) | exact H
  have Ny259 := Aside0.mk hy259; clear hy259
  have H' := Aside0.mk H
  clear H
  go_enter Tryd.func34, Tryd.ntmps34
  go_wp2_with (first | ((with_reducible refine gate_dst (N := 13) rfl ?_); refine Kd.R_lit k68 _ 68 ?hg (N := 13) ?hd (xs := ([(⟨60, 62⟩ : S68), (⟨171, 187⟩ : S68), (⟨8249, 8250⟩ : S68), (⟨8712, 8715⟩ : S68), (⟨8804, 8805⟩ : S68), (⟨8810, 8811⟩ : S68), (⟨8834, 8835⟩ : S68)] : List (S68))) (inner := [.int .i32 60, .int .i32 62, .int .i32 171, .int .i32 187, .int .i32 8249, .int .i32 8250, .int .i32 8712, .int .i32 8715, .int .i32 8804, .int .i32 8805, .int .i32 8810, .int .i32 8811, .int .i32 8834, .int .i32 8835]) (ok := fun _ => True) (okp := fun _ => True) ?hr ?hp (fun _ hk => hk) trivial (Below.refl _ _) (Nat.le_refl _) (by simp) ?_; (case hd => rfl); (case hg => rfl); (case hr => first | (go_simp; done) | (go_simp; rfl)); (case hp => exact (Reps.c2 (show Kd.M k68 _ _ _ (⟨60, 62⟩ : S68) [.int .i32 60, .int .i32 62] from (k68_mkM _ _ _ (⟨60, 62⟩ : S68) )) (Reps.c2 (show Kd.M k68 _ _ _ (⟨171, 187⟩ : S68) [.int .i32 171, .int .i32 187] from (k68_mkM _ _ _ (⟨171, 187⟩ : S68) )) (Reps.c2 (show Kd.M k68 _ _ _ (⟨8249, 8250⟩ : S68) [.int .i32 8249, .int .i32 8250] from (k68_mkM _ _ _ (⟨8249, 8250⟩ : S68) )) (Reps.c2 (show Kd.M k68 _ _ _ (⟨8712, 8715⟩ : S68) [.int .i32 8712, .int .i32 8715] from (k68_mkM _ _ _ (⟨8712, 8715⟩ : S68) )) (Reps.c2 (show Kd.M k68 _ _ _ (⟨8804, 8805⟩ : S68) [.int .i32 8804, .int .i32 8805] from (k68_mkM _ _ _ (⟨8804, 8805⟩ : S68) )) (Reps.c2 (show Kd.M k68 _ _ _ (⟨8810, 8811⟩ : S68) [.int .i32 8810, .int .i32 8811] from (k68_mkM _ _ _ (⟨8810, 8811⟩ : S68) )) (Reps.c2 (show Kd.M k68 _ _ _ (⟨8834, 8835⟩ : S68) [.int .i32 8834, .int .i32 8835] from (k68_mkM _ _ _ (⟨8834, 8835⟩ : S68) )) (Reps.none _ _))))))))); intro v254 w4 ho5 hb hg_ hnew_; clear hg_ hnew_; (first | rw [← Ny253.out] at ho5 | (simp only [Int.reduceToNat] at ho5; rw [← Ny253.out] at ho5)); have n0_ := Aside0.mk (Kd.R_lower ho5 (below_size (BB HB))); have n1_ := Aside0.mk (below_step (BB HB) hb); clear HB; have HO255 := n0_; have HB := n1_; clear n0_ n1_; clear hb ho5) | ((with_reducible refine gate_callee (f := 39) rfl ?_); refine goesL_ (some 15) rfl rfl Tryd.func39 (by kernel_rfl) rfl #[] rfl (by (try simp only [List.map_toArray, List.map_cons, List.map_nil]); first | done | rfl | (simp only [List.length_drop, List.length_take]; rfl)) ?_; (with_reducible refine (selvedgeref01_Brackets.calls  t256 _ A2.out).mono ?_); rintro e w6 ⟨v257, rfl, ho0, hb⟩; refine ⟨_, rfl, ?_⟩; have n0_ := Aside0.mk (Kd.R_elder' (RR HO255) (Kd.R_base ho0) hb); have n1_ := Aside0.mk (Kd.R_lower (Kd.R_new' ho0 (Kd.R_lt (RR HO255))) (below_size (BB HB))); have n2_ := Aside0.mk (below_step (BB HB) hb); clear HO255; clear HB; have HO255 := n0_; have HO258 := n1_; have HB := n2_; clear n0_ n1_ n2_; (try clear hb); (try clear hb2); (try clear hk); (try clear hi); (try clear ho0); obtain ⟨Ao8, co8, eo8⟩ := Kd.R_slice HO258.out; subst eo8) | ((with_reducible refine gate_builtin (b := .append) (xs := #[.tmp 14, .tmp 15]) rfl ?_); at_builtin; refine Kd.R_append_rows k68 (w0 := w) w.heap.size rfl (.tmp 14) (.tmp 15) 69 68 (.agg #[(.int .i32 0), (.int .i32 0)]) 8 rfl Tryd.underlying69 info68 rfl (by decide) (by omega) v254 y253 t256 _ _ _ (fun k_ => some k_ ≠ (.slice Ao8 t256.length co8 : Value).ownBlock) (fun _ => False) rfl rfl ?aO ?aR (fun _ _ h => h) (fun _ h => h.elim) ?aF ?aB ?aS ?aL ?_; (case aR => repeat (first | exact (Kd.R_reads' HO258.out).2.2 | (with_reducible refine Kd.C_alloc ?_ _) | (with_reducible refine Kd.C_drewN ?_ _) | (with_reducible refine Kd.C_drew ?_))); (case aB => exact (BB HB)); (case aF => exact (fun k_ hk => Kd.fresh' (Kd.R_lt (RR HO258)) k_ hk)); (case aO => exact (by (with_reducible repeat (first | apply Kd.R_alloc | apply Kd.R_drewN | apply Kd.R_drew)); exact Kd.R_mono HO255.out (fun _ hk => hk.2))); (case aS => exact (below_size (BB HB))); (case aL => have := LMc3.out; omega); intro v260 w7 ho hb hg hat; rw [← Ny259.out] at ho; have n0_ := Aside0.mk (Kd.R_after (ok := (fun _ => True)) (RR HO258) hg hat); have n1_ := Aside0.mk (hb); have n2_ := Aside0.mk (ho); clear HO258; clear HB; clear HO255; have HO258 := n0_; have HB := n1_; have HO261 := n2_; clear n0_ n1_ n2_; clear ho hb hg hat))
  go_loopg [5] k (fun kq v5 w' => ∃ (x5_1 : Int), v5 = .int .i64 x5_1 ∧ Aside0 (selvedgeref01_Mirror.l0 kq a0 y259 x5_1 = some (r1, r2)) ∧ Aside0 (kq ≤ k) ∧ Aside0 (Kd.R k68 68 w' w.heap.size (fun _ => True) v260 y259) ∧ Aside0 (Below w.heap.size w w'))
  case atStart => exact ⟨(0), (by first | rfl | (simp; done) | (simp [*]; done)), H', ⟨Nat.le_refl _⟩, ⟨by (with_reducible repeat (first | apply Kd.R_alloc | apply Kd.R_drewN | apply Kd.R_drew)); exact Kd.R_mono HO261.out (fun _ hk => trivial)⟩, ⟨BB HB⟩⟩
  case round =>
   clear H'
   (try clear c2); (try clear p2); (try clear c3)
   obtain ⟨x5_1, rfl, HA, HK1, HO_4, HB⟩ := hrel
   cases gk with
   | zero => exact absurd HA.out (by simp [selvedgeref01_Mirror.l0])
   | succ k1 =>
    have H := HA.out
    clear HA
    simp only [selvedgeref01_Mirror.l0] at H
    by_cases c9 : x5_1 < (y259.length : Int)
    ·rw [if_pos c9] at H; have c9b0 : decide (x5_1 < (y259.length : Int)) = true := decide_eq_true c9; clear c9; by_cases c10 : 0 ≤ x5_1
     ·rw [if_pos c10] at H; have c10b0 : decide (0 ≤ x5_1) = true := decide_eq_true c10; clear c10; by_cases c11 : a0 = ((rd_T68 y259 x5_1).f0)
      ·rw [if_pos c11] at H; have c11b0 : (a0 == ((rd_T68 y259 x5_1).f0)) = true := beq_iff_eq.mpr c11; have c11b1 : (a0 != ((rd_T68 y259 x5_1).f0)) = false := bne_eq_false_iff_eq.mpr c11; clear c11
       simp only [Option.some.injEq, Prod.mk.injEq] at H
       obtain ⟨rfl, rfl⟩ := H
       obtain ⟨Ao12, co12, eo12⟩ := Kd.R_slice HO_4.out
       subst eo12
       have p262 : 0 ≤ (x5_1 : Int) := of_decide_eq_true (by first | (with_reducible assumption) | assumption)
       have q262 : x5_1 < (y259.length : Int) := of_decide_eq_true (by first | (with_reducible assumption) | assumption)
       obtain ⟨ad262, e262, hx262_0, hx262_1⟩ := at_T68 (Kd.R_reads' HO_4.out).2.2 x5_1 p262 q262
       cases e262
       replace p262 := eq_true p262; replace q262 := eq_true q262
       have p263 : 0 ≤ (x5_1 : Int) := of_decide_eq_true (by first | (with_reducible assumption) | assumption)
       have q263 : x5_1 < (y259.length : Int) := of_decide_eq_true (by first | (with_reducible assumption) | assumption)
       obtain ⟨ad263, e263, hx263_0, hx263_1⟩ := at_T68 (Kd.R_reads' HO_4.out).2.2 x5_1 p263 q263
       obtain rfl : ad262 = ad263 := (by injection e263)
       replace p263 := eq_true p263; replace q263 := eq_true q263
       go_wp2
       go_ret2
       exact ⟨FF, BB HB⟩
      ·rw [if_neg c11] at H; have c11b0 : (a0 == ((rd_T68 y259 x5_1).f0)) = false := beq_eq_false_iff_ne.mpr c11; have c11b1 : (a0 != ((rd_T68 y259 x5_1).f0)) = true := bne_iff_ne.mpr c11; by_cases c13 : a0 = ((rd_T68 y259 x5_1).f1)
       ·rw [if_pos c13] at H; have c13b0 : (a0 == ((rd_T68 y259 x5_1).f1)) = true := beq_iff_eq.mpr c13; have c13b1 : (a0 != ((rd_T68 y259 x5_1).f1)) = false := bne_eq_false_iff_eq.mpr c13; clear c13
        simp only [Option.some.injEq, Prod.mk.injEq] at H
        obtain ⟨rfl, rfl⟩ := H
        obtain ⟨Ao14, co14, eo14⟩ := Kd.R_slice HO_4.out
        subst eo14
        have p262 : 0 ≤ (x5_1 : Int) := of_decide_eq_true (by first | (with_reducible assumption) | assumption)
        have q262 : x5_1 < (y259.length : Int) := of_decide_eq_true (by first | (with_reducible assumption) | assumption)
        obtain ⟨ad262, e262, hx262_0, hx262_1⟩ := at_T68 (Kd.R_reads' HO_4.out).2.2 x5_1 p262 q262
        cases e262
        replace p262 := eq_true p262; replace q262 := eq_true q262
        have p264 : 0 ≤ (x5_1 : Int) := of_decide_eq_true (by first | (with_reducible assumption) | assumption)
        have q264 : x5_1 < (y259.length : Int) := of_decide_eq_true (by first | (with_reducible assumption) | assumption)
        obtain ⟨ad264, e264, hx264_0, hx264_1⟩ := at_T68 (Kd.R_reads' HO_4.out).2.2 x5_1 p264 q264
        obtain rfl : ad262 = ad264 := (by injection e264)
        replace p264 := eq_true p264; replace q264 := eq_true q264
        have p265 : 0 ≤ (x5_1 : Int) := of_decide_eq_true (by first | (with_reducible assumption) | assumption)
        have q265 : x5_1 < (y259.length : Int) := of_decide_eq_true (by first | (with_reducible assumption) | assumption)
        obtain ⟨ad265, e265, hx265_0, hx265_1⟩ := at_T68 (Kd.R_reads' HO_4.out).2.2 x5_1 p265 q265
        obtain rfl : ad262 = ad265 := (by injection e265)
        replace p265 := eq_true p265; replace q265 := eq_true q265
        go_wp2
        go_ret2
        exact ⟨FF, BB HB⟩
       ·rw [if_neg c13] at H; have c13b0 : (a0 == ((rd_T68 y259 x5_1).f1)) = false := beq_eq_false_iff_ne.mpr c13; have c13b1 : (a0 != ((rd_T68 y259 x5_1).f1)) = true := bne_iff_ne.mpr c13
        have H' := Aside0.mk H
        clear H
        obtain ⟨Ao15, co15, eo15⟩ := Kd.R_slice HO_4.out
        subst eo15
        have p262 : 0 ≤ (x5_1 : Int) := of_decide_eq_true (by first | (with_reducible assumption) | assumption)
        have q262 : x5_1 < (y259.length : Int) := of_decide_eq_true (by first | (with_reducible assumption) | assumption)
        obtain ⟨ad262, e262, hx262_0, hx262_1⟩ := at_T68 (Kd.R_reads' HO_4.out).2.2 x5_1 p262 q262
        cases e262
        replace p262 := eq_true p262; replace q262 := eq_true q262
        have p264 : 0 ≤ (x5_1 : Int) := of_decide_eq_true (by first | (with_reducible assumption) | assumption)
        have q264 : x5_1 < (y259.length : Int) := of_decide_eq_true (by first | (with_reducible assumption) | assumption)
        obtain ⟨ad264, e264, hx264_0, hx264_1⟩ := at_T68 (Kd.R_reads' HO_4.out).2.2 x5_1 p264 q264
        obtain rfl : ad262 = ad264 := (by injection e264)
        replace p264 := eq_true p264; replace q264 := eq_true q264
        go_wp2
        go_roundg k1
        case measure => have := HK1.out; omega
        case rel => exact ⟨(wrap64 (x5_1 + 1)), (by first | rfl | (simp; done) | (simp [*]; done)), H', ⟨by have := HK1.out; omega⟩, ⟨RR HO_4⟩, ⟨BB HB⟩⟩
     ·rw [if_neg c10] at H
      exact absurd H (by simp)
    ·rw [if_neg c9] at H; have c9b0 : decide (x5_1 < (y259.length : Int)) = false := decide_eq_false c9; clear c9
     simp only [Option.some.injEq, Prod.mk.injEq] at H
     obtain ⟨rfl, rfl⟩ := H
     obtain ⟨Ao16, co16, eo16⟩ := Kd.R_slice HO_4.out
     subst eo16
     go_wp2
     go_ret2
     exact ⟨FF, BB HB⟩
 ·rw [if_neg c3] at H
  exact absurd H (by simp)
def selvedgeref20_Mirrored.f (k : Nat) (a0 : Int) (a1 : Int) : Option (Int × Bool) := (selvedgeref01_Mirror.f k a0).bind fun bt266 => (if bt266.2 = true then (if (Int.tmod a1 2) = 1 then (some (bt266.1, true)) else (some (a0, false))) else (some (a0, false)))
theorem selvedgeref20_Mirrored.mono : ∀ a0 a1 k, LeO (selvedgeref20_Mirrored.f k a0 a1) (selvedgeref20_Mirrored.f (k + 1) a0 a1) := by
 intro a0 a1 k
 unfold selvedgeref20_Mirrored.f
 repeat' first
   | (with_reducible exact selvedgeref01_Mirror.mono _ _)
   | (with_reducible exact LeO.refl _)
   | (with_reducible exact LeO.none _)
   | (with_reducible refine LeO.ite ?_ ?_)
   | (with_reducible refine LeO.bind ?_ (fun _ => ?_))
   | exact selvedgeref01_Mirror.mono _ _
   | exact LeO.none _
   | refine LeO.ite ?_ ?_
   | refine LeO.bind ?_ (fun _ => ?_)
set_option maxHeartbeats 80000000 in
set_option maxRecDepth 100000 in
theorem selvedgeref20_Mirrored.calls (k : Nat) (a0 : Int) (a1 : Int) (r1 : Int) (r2 : Bool) (w : World) (h : selvedgeref20_Mirrored.f k a0 a1 = some (r1, r2)) :
  Calls Tryd.prog 19 #[.int .i32 a0, .int .u8 a1] w fun e w' => e = .returned (.tuple #[.int .i32 r1, .bool r2]) ∧ Below w.heap.size w w' := by
 have HB := Aside0.mk (Below.refl w.heap.size w)
 have H : ((selvedgeref01_Mirror.f k a0).bind fun bt266 => (if bt266.2 = true then (if (Int.tmod a1 2) = 1 then (some (bt266.1, true)) else (some (a0, false))) else (some (a0, false)))) = some (r1, r2) := h
 clear h; replace H := Option.bind_eq_some_iff.mp H
 obtain ⟨⟨t266, t267⟩, A30, H⟩ := H
 replace H : (if t267 = true then (if (Int.tmod a1 2) = 1 then (some (t266, true)) else (some (a0, false))) else (some (a0, false))) = some (r1, r2) := H
 have A3 := Aside0.mk A30; clear A30; by_cases c4 : t267 = true
 ·subst c4
  have H1 : (if (Int.tmod a1 2) = 1 then (some (t266, true)) else (some (a0, false))) = some (r1, r2) := by rw [if_pos rfl] at H; exact H
  clear H
  have H := H1
  clear H1; by_cases c5 : (Int.tmod a1 2) = 1
  ·rw [if_pos c5] at H; have c5b0 : ((Int.tmod a1 2) == 1) = true := beq_iff_eq.mpr c5; have c5b1 : ((Int.tmod a1 2) != 1) = false := bne_eq_false_iff_eq.mpr c5; clear c5
   simp only [Option.some.injEq, Prod.mk.injEq] at H
   obtain ⟨rfl, rfl⟩ := H
   go_enter Tryd.func19, Tryd.ntmps19
   go_wp2_with (first | ((with_reducible refine gate_callee (f := 34) rfl ?_); refine goesL_ (some 10) rfl rfl Tryd.func34 (by kernel_rfl) rfl #[.int .i32 a0] rfl (by (try simp only [List.map_toArray, List.map_cons, List.map_nil]); first | done | rfl | (simp only [List.length_drop, List.length_take]; rfl)) ?_; (with_reducible refine (selvedgeref01_Mirror.calls k a0 t266 true _ A3.out).mono ?_); rintro e w6 ⟨rfl, hb⟩; refine ⟨_, rfl, ?_⟩; have n0_ := Aside0.mk (below_step (BB HB) hb); clear HB; have HB := n0_; clear n0_; (try clear hb); (try clear hb2); (try clear hk); (try clear hi)))
   go_ret2
   exact ⟨FF, BB HB⟩
  ·rw [if_neg c5] at H; have c5b0 : ((Int.tmod a1 2) == 1) = false := beq_eq_false_iff_ne.mpr c5; have c5b1 : ((Int.tmod a1 2) != 1) = true := bne_iff_ne.mpr c5
   simp only [Option.some.injEq, Prod.mk.injEq] at H
   obtain ⟨rfl, rfl⟩ := H
   go_enter Tryd.func19, Tryd.ntmps19
   go_wp2_with (first | ((with_reducible refine gate_callee (f := 34) rfl ?_); refine goesL_ (some 10) rfl rfl Tryd.func34 (by kernel_rfl) rfl #[.int .i32 a0] rfl (by (try simp only [List.map_toArray, List.map_cons, List.map_nil]); first | done | rfl | (simp only [List.length_drop, List.length_take]; rfl)) ?_; (with_reducible refine (selvedgeref01_Mirror.calls k a0 t266 true _ A3.out).mono ?_); rintro e w7 ⟨rfl, hb⟩; refine ⟨_, rfl, ?_⟩; have n0_ := Aside0.mk (below_step (BB HB) hb); clear HB; have HB := n0_; clear n0_; (try clear hb); (try clear hb2); (try clear hk); (try clear hi)))
   go_ret2
   exact ⟨FF, BB HB⟩
 ·replace c4 := Bool.eq_false_iff.mpr c4
  subst c4
  have H1 : (some (a0, false)) = some (r1, r2) := by rw [if_neg (show ¬ (false = true) by decide)] at H; exact H
  clear H
  have H := H1
  clear H1
  simp only [Option.some.injEq, Prod.mk.injEq] at H
  obtain ⟨rfl, rfl⟩ := H
  go_enter Tryd.func19, Tryd.ntmps19
  go_wp2_with (first | ((with_reducible refine gate_callee (f := 34) rfl ?_); refine goesL_ (some 10) rfl rfl Tryd.func34 (by kernel_rfl) rfl #[.int .i32 a0] rfl (by (try simp only [List.map_toArray, List.map_cons, List.map_nil]); first | done | rfl | (simp only [List.length_drop, List.length_take]; rfl)) ?_; (with_reducible refine (selvedgeref01_Mirror.calls k a0 t266 false _ A3.out).mono ?_); rintro e w8 ⟨rfl, hb⟩; refine ⟨_, rfl, ?_⟩; have n0_ := Aside0.mk (below_step (BB HB) hb); clear HB; have HB := n0_; clear n0_; (try clear hb); (try clear hb2); (try clear hk); (try clear hi)))
  go_ret2
  exact ⟨FF, BB HB⟩
def selvedgelaw20_OrderMirrors.f (k : Nat) (a0 : Int) (a1 : Int) : Option (Bool) := (order_Mirrored.f a0 a1).bind fun bt268 => ((selvedgeref20_Mirrored.f k a0 a1).bind fun bt270 => ((order_Mirrored.f bt268.1 a1).bind fun bt272 => (if bt268.1 = bt270.1 then (if (bt268.2 == bt270.2) = true then (if bt268.2 = true then (if bt272.2 = true then (if bt272.1 = a0 then ((selvedgelaw20_works.f k).bind fun t274 => (some t274)) else (some false)) else (some false)) else ((selvedgelaw20_works.f k).bind fun t275 => (some t275))) else (some false)) else (some false))))
theorem selvedgelaw20_OrderMirrors.mono : ∀ a0 a1 k, LeO (selvedgelaw20_OrderMirrors.f k a0 a1) (selvedgelaw20_OrderMirrors.f (k + 1) a0 a1) := by
 intro a0 a1 k
 unfold selvedgelaw20_OrderMirrors.f
 repeat' first
   | (with_reducible exact selvedgelaw20_works.mono _)
   | (with_reducible exact selvedgeref20_Mirrored.mono _ _ _)
   | (with_reducible exact LeO.refl _)
   | (with_reducible exact LeO.none _)
   | (with_reducible refine LeO.ite ?_ ?_)
   | (with_reducible refine LeO.bind ?_ (fun _ => ?_))
   | exact selvedgelaw20_works.mono _
   | exact selvedgeref20_Mirrored.mono _ _ _
   | exact LeO.none _
   | refine LeO.ite ?_ ?_
   | refine LeO.bind ?_ (fun _ => ?_)
set_option maxHeartbeats 80000000 in
set_option maxRecDepth 100000 in
theorem selvedgelaw20_OrderMirrors.calls (k : Nat) (a0 : Int) (a1 : Int) (r : Bool) (w : World) (h : selvedgelaw20_OrderMirrors.f k a0 a1 = some r) (hG : LaidW w := by first | exact hG | exact HG.out | exact LaidW.below HG.out (BB HB)) :
  Calls Tryd.prog 5 #[.int .i32 a0, .int .u8 a1] w fun e w' => e = .returned (.bool r) ∧ Below w.heap.size w w' := by
 have HG := Aside0.mk hG; clear hG
 have HB := Aside0.mk (Below.refl w.heap.size w)
 have H : ((order_Mirrored.f a0 a1).bind fun bt268 => ((selvedgeref20_Mirrored.f k a0 a1).bind fun bt270 => ((order_Mirrored.f bt268.1 a1).bind fun bt272 => (if bt268.1 = bt270.1 then (if (bt268.2 == bt270.2) = true then (if bt268.2 = true then (if bt272.2 = true then (if bt272.1 = a0 then ((selvedgelaw20_works.f k).bind fun t274 => (some t274)) else (some false)) else (some false)) else ((selvedgelaw20_works.f k).bind fun t275 => (some t275))) else (some false)) else (some false))))) = some r := h
 clear h; replace H := Option.bind_eq_some_iff.mp H
 obtain ⟨⟨t268, t269⟩, A30, H⟩ := H
 replace H : ((selvedgeref20_Mirrored.f k a0 a1).bind fun bt270 => ((order_Mirrored.f t268 a1).bind fun bt272 => (if t268 = bt270.1 then (if (t269 == bt270.2) = true then (if t269 = true then (if bt272.2 = true then (if bt272.1 = a0 then ((selvedgelaw20_works.f k).bind fun t274 => (some t274)) else (some false)) else (some false)) else ((selvedgelaw20_works.f k).bind fun t275 => (some t275))) else (some false)) else (some false)))) = some r := H
 have A3 := Aside0.mk A30; clear A30; replace H := Option.bind_eq_some_iff.mp H
 obtain ⟨⟨t270, t271⟩, A40, H⟩ := H
 replace H : ((order_Mirrored.f t268 a1).bind fun bt272 => (if t268 = t270 then (if (t269 == t271) = true then (if t269 = true then (if bt272.2 = true then (if bt272.1 = a0 then ((selvedgelaw20_works.f k).bind fun t274 => (some t274)) else (some false)) else (some false)) else ((selvedgelaw20_works.f k).bind fun t275 => (some t275))) else (some false)) else (some false))) = some r := H
 have A4 := Aside0.mk A40; clear A40; replace H := Option.bind_eq_some_iff.mp H
 obtain ⟨⟨t272, t273⟩, A50, H⟩ := H
 replace H : (if t268 = t270 then (if (t269 == t271) = true then (if t269 = true then (if t273 = true then (if t272 = a0 then ((selvedgelaw20_works.f k).bind fun t274 => (some t274)) else (some false)) else (some false)) else ((selvedgelaw20_works.f k).bind fun t275 => (some t275))) else (some false)) else (some false)) = some r := H
 have A5 := Aside0.mk A50; clear A50; by_cases c6 : t268 = t270
 ·rw [if_pos c6] at H; have c6b0 : (t268 == t270) = true := beq_iff_eq.mpr c6; have c6b1 : (t268 != t270) = false := bne_eq_false_iff_eq.mpr c6; clear c6; by_cases c7 : (t269 == t271) = true
  ·rw [if_pos c7] at H
   have c7b0 : (t269 == t271) = true := c7
   (try (have c7b1 : decide (t269 = t271) = true := by simpa using c7))
   (try (have c7b2 : (t269 == t271) = true := by simpa using c7))
   clear c7; by_cases c8 : t269 = true
   ·subst c8
    have H1 : (if t273 = true then (if t272 = a0 then ((selvedgelaw20_works.f k).bind fun t274 => (some t274)) else (some false)) else (some false)) = some r := by rw [if_pos rfl] at H; exact H
    clear H
    have H := H1
    clear H1; by_cases c9 : t273 = true
    ·subst c9
     have H1 : (if t272 = a0 then ((selvedgelaw20_works.f k).bind fun t274 => (some t274)) else (some false)) = some r := by rw [if_pos rfl] at H; exact H
     clear H
     have H := H1
     clear H1; by_cases c10 : t272 = a0
     ·rw [if_pos c10] at H; have c10b0 : (t272 == a0) = true := beq_iff_eq.mpr c10; have c10b1 : (t272 != a0) = false := bne_eq_false_iff_eq.mpr c10; clear c10; replace H := Option.bind_eq_some_iff.mp H; obtain ⟨t274, A110, H⟩ := H
      replace H : (some t274) = some r := H
      have A11 := Aside0.mk A110; clear A110; obtain rfl := Option.some.inj H
      go_enter Tryd.func5, Tryd.ntmps5
      go_wp2_with (first | ((with_reducible refine gate_callee (f := 18) rfl ?_); refine goesL_ (some 14) rfl rfl Tryd.func18 (by kernel_rfl) rfl #[.int .i32 a0, .int .u8 a1] rfl (by (try simp only [List.map_toArray, List.map_cons, List.map_nil]); first | done | rfl | (simp only [List.length_drop, List.length_take]; rfl)) ?_; (with_reducible refine (order_Mirrored.calls a0 a1 t268 true _ A3.out).mono ?_); rintro e w12 ⟨rfl, hb⟩; refine ⟨_, rfl, ?_⟩; have n0_ := Aside0.mk (below_step (BB HB) hb); clear HB; have HB := n0_; clear n0_; (try clear hb); (try clear hb2); (try clear hk); (try clear hi)) | ((with_reducible refine gate_callee (f := 19) rfl ?_); refine goesL_ (some 20) rfl rfl Tryd.func19 (by kernel_rfl) rfl #[.int .i32 a0, .int .u8 a1] rfl (by (try simp only [List.map_toArray, List.map_cons, List.map_nil]); first | done | rfl | (simp only [List.length_drop, List.length_take]; rfl)) ?_; (with_reducible refine (selvedgeref20_Mirrored.calls k a0 a1 t270 t271 _ A4.out).mono ?_); rintro e w13 ⟨rfl, hb⟩; refine ⟨_, rfl, ?_⟩; have n0_ := Aside0.mk (below_step (BB HB) hb); clear HB; have HB := n0_; clear n0_; (try clear hb); (try clear hb2); (try clear hk); (try clear hi)) | ((with_reducible refine gate_callee (f := 18) rfl ?_); refine goesL_ (some 26) rfl rfl Tryd.func18 (by kernel_rfl) rfl #[.int .i32 t268, .int .u8 a1] rfl (by (try simp only [List.map_toArray, List.map_cons, List.map_nil]); first | done | rfl | (simp only [List.length_drop, List.length_take]; rfl)) ?_; (with_reducible refine (order_Mirrored.calls t268 a1 t272 true _ A5.out).mono ?_); rintro e w14 ⟨rfl, hb⟩; refine ⟨_, rfl, ?_⟩; have n0_ := Aside0.mk (below_step (BB HB) hb); clear HB; have HB := n0_; clear n0_; (try clear hb); (try clear hb2); (try clear hk); (try clear hi)) | (go_at_call 11; (with_reducible refine (selvedgelaw20_works.calls k  t274 _ A11.out).mono ?_); rintro e w15 ⟨rfl, hb⟩; have n0_ := Aside0.mk (below_step (BB HB) hb); clear HB; have HB := n0_; clear n0_; (try clear hb); (try clear hb2); (try clear hk); (try clear hi)))
      go_ret
      exact ⟨FF, BB HB⟩
     ·rw [if_neg c10] at H; have c10b0 : (t272 == a0) = false := beq_eq_false_iff_ne.mpr c10; have c10b1 : (t272 != a0) = true := bne_iff_ne.mpr c10; obtain rfl := Option.some.inj H
      go_enter Tryd.func5, Tryd.ntmps5
      go_wp2_with (first | ((with_reducible refine gate_callee (f := 18) rfl ?_); refine goesL_ (some 14) rfl rfl Tryd.func18 (by kernel_rfl) rfl #[.int .i32 a0, .int .u8 a1] rfl (by (try simp only [List.map_toArray, List.map_cons, List.map_nil]); first | done | rfl | (simp only [List.length_drop, List.length_take]; rfl)) ?_; (with_reducible refine (order_Mirrored.calls a0 a1 t268 true _ A3.out).mono ?_); rintro e w16 ⟨rfl, hb⟩; refine ⟨_, rfl, ?_⟩; have n0_ := Aside0.mk (below_step (BB HB) hb); clear HB; have HB := n0_; clear n0_; (try clear hb); (try clear hb2); (try clear hk); (try clear hi)) | ((with_reducible refine gate_callee (f := 19) rfl ?_); refine goesL_ (some 20) rfl rfl Tryd.func19 (by kernel_rfl) rfl #[.int .i32 a0, .int .u8 a1] rfl (by (try simp only [List.map_toArray, List.map_cons, List.map_nil]); first | done | rfl | (simp only [List.length_drop, List.length_take]; rfl)) ?_; (with_reducible refine (selvedgeref20_Mirrored.calls k a0 a1 t270 t271 _ A4.out).mono ?_); rintro e w17 ⟨rfl, hb⟩; refine ⟨_, rfl, ?_⟩; have n0_ := Aside0.mk (below_step (BB HB) hb); clear HB; have HB := n0_; clear n0_; (try clear hb); (try clear hb2); (try clear hk); (try clear hi)) | ((with_reducible refine gate_callee (f := 18) rfl ?_); refine goesL_ (some 26) rfl rfl Tryd.func18 (by kernel_rfl) rfl #[.int .i32 t268, .int .u8 a1] rfl (by (try simp only [List.map_toArray, List.map_cons, List.map_nil]); first | done | rfl | (simp only [List.length_drop, List.length_take]; rfl)) ?_; (with_reducible refine (order_Mirrored.calls t268 a1 t272 true _ A5.out).mono ?_); rintro e w18 ⟨rfl, hb⟩; refine ⟨_, rfl, ?_⟩; have n0_ := Aside0.mk (below_step (BB HB) hb); clear HB; have HB := n0_; clear n0_; (try clear hb); (try clear hb2); (try clear hk); (try clear hi)))
      go_ret
      exact ⟨FF, BB HB⟩
    ·replace c9 := Bool.eq_false_iff.mpr c9
     subst c9
     have H1 : (some false) = some r := by rw [if_neg (show ¬ (false = true) by decide)] at H; exact H
     clear H
     have H := H1
     clear H1; obtain rfl := Option.some.inj H
     go_enter Tryd.func5, Tryd.ntmps5
     go_wp2_with (first | ((with_reducible refine gate_callee (f := 18) rfl ?_); refine goesL_ (some 14) rfl rfl Tryd.func18 (by kernel_rfl) rfl #[.int .i32 a0, .int .u8 a1] rfl (by (try simp only [List.map_toArray, List.map_cons, List.map_nil]); first | done | rfl | (simp only [List.length_drop, List.length_take]; rfl)) ?_; (with_reducible refine (order_Mirrored.calls a0 a1 t268 true _ A3.out).mono ?_); rintro e w19 ⟨rfl, hb⟩; refine ⟨_, rfl, ?_⟩; have n0_ := Aside0.mk (below_step (BB HB) hb); clear HB; have HB := n0_; clear n0_; (try clear hb); (try clear hb2); (try clear hk); (try clear hi)) | ((with_reducible refine gate_callee (f := 19) rfl ?_); refine goesL_ (some 20) rfl rfl Tryd.func19 (by kernel_rfl) rfl #[.int .i32 a0, .int .u8 a1] rfl (by (try simp only [List.map_toArray, List.map_cons, List.map_nil]); first | done | rfl | (simp only [List.length_drop, List.length_take]; rfl)) ?_; (with_reducible refine (selvedgeref20_Mirrored.calls k a0 a1 t270 t271 _ A4.out).mono ?_); rintro e w20 ⟨rfl, hb⟩; refine ⟨_, rfl, ?_⟩; have n0_ := Aside0.mk (below_step (BB HB) hb); clear HB; have HB := n0_; clear n0_; (try clear hb); (try clear hb2); (try clear hk); (try clear hi)) | ((with_reducible refine gate_callee (f := 18) rfl ?_); refine goesL_ (some 26) rfl rfl Tryd.func18 (by kernel_rfl) rfl #[.int .i32 t268, .int .u8 a1] rfl (by (try simp only [List.map_toArray, List.map_cons, List.map_nil]); first | done | rfl | (simp only [List.length_drop, List.length_take]; rfl)) ?_; (with_reducible refine (order_Mirrored.calls t268 a1 t272 false _ A5.out).mono ?_); rintro e w21 ⟨rfl, hb⟩; refine ⟨_, rfl, ?_⟩; have n0_ := Aside0.mk (below_step (BB HB) hb); clear HB; have HB := n0_; clear n0_; (try clear hb); (try clear hb2); (try clear hk); (try clear hi)))
     go_ret
     exact ⟨FF, BB HB⟩
   ·replace c8 := Bool.eq_false_iff.mpr c8
    subst c8
    have H1 : ((selvedgelaw20_works.f k).bind fun t275 => (some t275)) = some r := by rw [if_neg (show ¬ (false = true) by decide)] at H; exact H
    clear H
    have H := H1
    clear H1; replace H := Option.bind_eq_some_iff.mp H; obtain ⟨t275, A220, H⟩ := H
    replace H : (some t275) = some r := H
    have A22 := Aside0.mk A220; clear A220; obtain rfl := Option.some.inj H
    go_enter Tryd.func5, Tryd.ntmps5
    go_wp2_with (first | ((with_reducible refine gate_callee (f := 18) rfl ?_); refine goesL_ (some 14) rfl rfl Tryd.func18 (by kernel_rfl) rfl #[.int .i32 a0, .int .u8 a1] rfl (by (try simp only [List.map_toArray, List.map_cons, List.map_nil]); first | done | rfl | (simp only [List.length_drop, List.length_take]; rfl)) ?_; (with_reducible refine (order_Mirrored.calls a0 a1 t268 false _ A3.out).mono ?_); rintro e w23 ⟨rfl, hb⟩; refine ⟨_, rfl, ?_⟩; have n0_ := Aside0.mk (below_step (BB HB) hb); clear HB; have HB := n0_; clear n0_; (try clear hb); (try clear hb2); (try clear hk); (try clear hi)) | ((with_reducible refine gate_callee (f := 19) rfl ?_); refine goesL_ (some 20) rfl rfl Tryd.func19 (by kernel_rfl) rfl #[.int .i32 a0, .int .u8 a1] rfl (by (try simp only [List.map_toArray, List.map_cons, List.map_nil]); first | done | rfl | (simp only [List.length_drop, List.length_take]; rfl)) ?_; (with_reducible refine (selvedgeref20_Mirrored.calls k a0 a1 t270 t271 _ A4.out).mono ?_); rintro e w24 ⟨rfl, hb⟩; refine ⟨_, rfl, ?_⟩; have n0_ := Aside0.mk (below_step (BB HB) hb); clear HB; have HB := n0_; clear n0_; (try clear hb); (try clear hb2); (try clear hk); (try clear hi)) | ((with_reducible refine gate_callee (f := 18) rfl ?_); refine goesL_ (some 26) rfl rfl Tryd.func18 (by kernel_rfl) rfl #[.int .i32 t268, .int .u8 a1] rfl (by (try simp only [List.map_toArray, List.map_cons, List.map_nil]); first | done | rfl | (simp only [List.length_drop, List.length_take]; rfl)) ?_; (with_reducible refine (order_Mirrored.calls t268 a1 t272 t273 _ A5.out).mono ?_); rintro e w25 ⟨rfl, hb⟩; refine ⟨_, rfl, ?_⟩; have n0_ := Aside0.mk (below_step (BB HB) hb); clear HB; have HB := n0_; clear n0_; (try clear hb); (try clear hb2); (try clear hk); (try clear hi)) | (go_at_call 11; (with_reducible refine (selvedgelaw20_works.calls k  t275 _ A22.out).mono ?_); rintro e w26 ⟨rfl, hb⟩; have n0_ := Aside0.mk (below_step (BB HB) hb); clear HB; have HB := n0_; clear n0_; (try clear hb); (try clear hb2); (try clear hk); (try clear hi)))
    go_ret
    exact ⟨FF, BB HB⟩
  ·rw [if_neg c7] at H
   have c7b0 : (t269 == t271) = false := by simpa using c7
   (try (have c7b1 : decide (t269 = t271) = false := by simpa using c7))
   (try (have c7b2 : (t269 == t271) = false := by simpa using c7))
   (try (have c7b3 : ¬ (t269 = t271) := by simpa using c7))
   clear c7; obtain rfl := Option.some.inj H
   go_enter Tryd.func5, Tryd.ntmps5
   go_wp2_with (first | ((with_reducible refine gate_callee (f := 18) rfl ?_); refine goesL_ (some 14) rfl rfl Tryd.func18 (by kernel_rfl) rfl #[.int .i32 a0, .int .u8 a1] rfl (by (try simp only [List.map_toArray, List.map_cons, List.map_nil]); first | done | rfl | (simp only [List.length_drop, List.length_take]; rfl)) ?_; (with_reducible refine (order_Mirrored.calls a0 a1 t268 t269 _ A3.out).mono ?_); rintro e w27 ⟨rfl, hb⟩; refine ⟨_, rfl, ?_⟩; have n0_ := Aside0.mk (below_step (BB HB) hb); clear HB; have HB := n0_; clear n0_; (try clear hb); (try clear hb2); (try clear hk); (try clear hi)) | ((with_reducible refine gate_callee (f := 19) rfl ?_); refine goesL_ (some 20) rfl rfl Tryd.func19 (by kernel_rfl) rfl #[.int .i32 a0, .int .u8 a1] rfl (by (try simp only [List.map_toArray, List.map_cons, List.map_nil]); first | done | rfl | (simp only [List.length_drop, List.length_take]; rfl)) ?_; (with_reducible refine (selvedgeref20_Mirrored.calls k a0 a1 t270 t271 _ A4.out).mono ?_); rintro e w28 ⟨rfl, hb⟩; refine ⟨_, rfl, ?_⟩; have n0_ := Aside0.mk (below_step (BB HB) hb); clear HB; have HB := n0_; clear n0_; (try clear hb); (try clear hb2); (try clear hk); (try clear hi)) | ((with_reducible refine gate_callee (f := 18) rfl ?_); refine goesL_ (some 26) rfl rfl Tryd.func18 (by kernel_rfl) rfl #[.int .i32 t268, .int .u8 a1] rfl (by (try simp only [List.map_toArray, List.map_cons, List.map_nil]); first | done | rfl | (simp only [List.length_drop, List.length_take]; rfl)) ?_; (with_reducible refine (order_Mirrored.calls t268 a1 t272 t273 _ A5.out).mono ?_); rintro e w29 ⟨rfl, hb⟩; refine ⟨_, rfl, ?_⟩; have n0_ := Aside0.mk (below_step (BB HB) hb); clear HB; have HB := n0_; clear n0_; (try clear hb); (try clear hb2); (try clear hk); (try clear hi)))
   go_ret
   exact ⟨FF, BB HB⟩
 ·rw [if_neg c6] at H; have c6b0 : (t268 == t270) = false := beq_eq_false_iff_ne.mpr c6; have c6b1 : (t268 != t270) = true := bne_iff_ne.mpr c6; obtain rfl := Option.some.inj H
  go_enter Tryd.func5, Tryd.ntmps5
  go_wp2_with (first | ((with_reducible refine gate_callee (f := 18) rfl ?_); refine goesL_ (some 14) rfl rfl Tryd.func18 (by kernel_rfl) rfl #[.int .i32 a0, .int .u8 a1] rfl (by (try simp only [List.map_toArray, List.map_cons, List.map_nil]); first | done | rfl | (simp only [List.length_drop, List.length_take]; rfl)) ?_; (with_reducible refine (order_Mirrored.calls a0 a1 t268 t269 _ A3.out).mono ?_); rintro e w30 ⟨rfl, hb⟩; refine ⟨_, rfl, ?_⟩; have n0_ := Aside0.mk (below_step (BB HB) hb); clear HB; have HB := n0_; clear n0_; (try clear hb); (try clear hb2); (try clear hk); (try clear hi)) | ((with_reducible refine gate_callee (f := 19) rfl ?_); refine goesL_ (some 20) rfl rfl Tryd.func19 (by kernel_rfl) rfl #[.int .i32 a0, .int .u8 a1] rfl (by (try simp only [List.map_toArray, List.map_cons, List.map_nil]); first | done | rfl | (simp only [List.length_drop, List.length_take]; rfl)) ?_; (with_reducible refine (selvedgeref20_Mirrored.calls k a0 a1 t270 t271 _ A4.out).mono ?_); rintro e w31 ⟨rfl, hb⟩; refine ⟨_, rfl, ?_⟩; have n0_ := Aside0.mk (below_step (BB HB) hb); clear HB; have HB := n0_; clear n0_; (try clear hb); (try clear hb2); (try clear hk); (try clear hi)) | ((with_reducible refine gate_callee (f := 18) rfl ?_); refine goesL_ (some 26) rfl rfl Tryd.func18 (by kernel_rfl) rfl #[.int .i32 t268, .int .u8 a1] rfl (by (try simp only [List.map_toArray, List.map_cons, List.map_nil]); first | done | rfl | (simp only [List.length_drop, List.length_take]; rfl)) ?_; (with_reducible refine (order_Mirrored.calls t268 a1 t272 t273 _ A5.out).mono ?_); rintro e w32 ⟨rfl, hb⟩; refine ⟨_, rfl, ?_⟩; have n0_ := Aside0.mk (below_step (BB HB) hb); clear HB; have HB := n0_; clear n0_; (try clear hb); (try clear hb2); (try clear hk); (try clear hi)))
  go_ret
  exact ⟨FF, BB HB⟩
def selvedgelaw20_OrderMirrors.Pure : Prop := ∀ (a0 : Int) (a1 : Int), (Lit.int .i32 a0).wf = true → (Lit.int .u8 a1).wf = true → ∃ k, selvedgelaw20_OrderMirrors.f k a0 a1 = some true
theorem selvedgelaw20_OrderMirrors.walk (P : selvedgelaw20_OrderMirrors.Pure) (a0 : Int) (a1 : Int) (w : World) (w0 : (Lit.int .i32 a0).wf = true) (w1 : (Lit.int .u8 a1).wf = true) (hG : LaidW w) :
  Calls Tryd.prog 5 #[.int .i32 a0, .int .u8 a1] w fun e w' => e = .returned (.bool true) ∧ Below w.heap.size w w' := by
 obtain ⟨k, h⟩ := P a0 a1 w0 w1
 refine (selvedgelaw20_OrderMirrors.calls k a0 a1 true w h).mono ?_
 rintro e w' ⟨rfl, hd⟩
 exact ⟨rfl, hd⟩
end Go.Proofs.YtgfkbijmchoolaaDoor.P

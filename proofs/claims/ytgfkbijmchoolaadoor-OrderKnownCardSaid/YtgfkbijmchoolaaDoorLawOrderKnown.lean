/- Proved: the closed law OrderKnown answers true: its calls of the chapter's other laws do, at every input. No condition beyond the row's own. -/
import Derived.Test.YtgfkbijmchoolaaDoorRows
import Derived.Test.YtgfkbijmchoolaaDoorP15
import Derived.Test.YtgfkbijmchoolaaDoorPureOrderKnown
import Derived.WalkKit
import Derived.ProofKit
import Derived.OpenShut
import Derived.ShutString
import Derived.ChangeOld
import Derived.Below
import Derived.SizedLaws
import Derived.LaidMore
import Derived.Stop.Joined
import Derived.SevenTiedAt
import Derived.Test.YtgfkbijmchoolaaDoorLd
import Derived.Test.YtgfkbijmchoolaaDoorTie
import Derived.Test.YtgfkbijmchoolaaDoorCards
namespace Go.Proofs.YtgfkbijmchoolaaDoor.orderKnown
open Go.ChangeShapes Go.WideShapes Go.ChangeAt Go.RowKit
open Go.ChangeMaps (open_string shut_string)
set_option linter.unusedVariables false
theorem own : ownKnob Tryd.prog.godebug = none := by kernel_rfl
theorem doorMet (os : Os) (args : Array Value) : laidMetH Tryd.prog [("selvedge/props.brackets", Rows.laid_selvedge_props_brackets), ("selvedge/props.mirrors", Rows.laid_selvedge_props_mirrors)] ((World.doorLaid Tryd.prog 4000 os).forCall (fun _ _ => 0) ⟨#[], args, []⟩).memory :=
  laidMetH_of_parts3 (fuel := 8) (laidMet_of_run' 8 (by kernel_rfl) (by kernel_rfl)) (by kernel_rfl) (by kernel_rfl)
set_option maxRecDepth 100000 in
theorem lifted (os : Os) (started : os.Started) (H : Type) (enc : TypeId × Value → H) :
    ReturnsInHanded {} Tryd.checked os 9 .any (fun w args => (Rows.orderKnownSpec.pre enc Tryd.prog Tryd.f9 [] false w args ∧ laidMetH Tryd.prog [("selvedge/props.brackets", Rows.laid_selvedge_props_brackets), ("selvedge/props.mirrors", Rows.laid_selvedge_props_mirrors)] w) ∧ sizedMet enc Tryd.prog Tryd.f9 (OpenSpec.ofChange Rows.orderKnownSpec) false w args) (Rows.orderKnownSpec.post enc Tryd.prog Tryd.f9 false true false false) := by
  refine returnsInHanded_of_change_and (C := Tryd.checked) (X := fun w _ => laidMetH Tryd.prog [("selvedge/props.brackets", Rows.laid_selvedge_props_brackets), ("selvedge/props.mirrors", Rows.laid_selvedge_props_mirrors)] w) (fun _ _ _ hh h => h.of_heap hh) own started (by kernel_rfl) Tryd.func9
    (ChangeSpec.witness_shaped (enc := enc) (C := Tryd.checked) (os := os) (X := fun w _ => laidMetH Tryd.prog [("selvedge/props.brackets", Rows.laid_selvedge_props_brackets), ("selvedge/props.mirrors", Rows.laid_selvedge_props_mirrors)] w) false (World.doorLaid Tryd.prog 4000 os) #[] 8 rfl (World.shaped_of_RefB (by kernel_rfl) (by kernel_rfl)) (by kernel_rfl) (by kernel_rfl) (by kernel_rfl) (doorMet os _)) ?_
  intro W base args ds gs before hval0 hW hcnd hsz0 hL _
  have hsz : (DataW.weightsEach Tryd.prog (Tryd.f9.params.toList ++ Rows.orderKnownSpec.plain.varTypes Tryd.prog) (ds ++ gs)).all (· ≤ reachBytes) = true := hsz0
  have hval : ∀ (j : Nat) t v, Tryd.f9.params[j]? = some t → args[j]? = some v → Value.okWide Tryd.prog W .any base t v := hval0
  have hW' := hW
  obtain ⟨p, q, hA0, hV, rfl, hfz, hnd⟩ := hW
  have hA : DataW.TrodAll enc Tryd.prog W 0 (fun _ => true) true Tryd.f9.params.toList args.toList ds p := hA0
  rw [Tryd.params9] at hA hval hsz
  obtain ⟨rfl, rfl, rfl⟩ := trodAll_none hA
  obtain ⟨rfl, rfl⟩ := trodVars_none hV
  clear hA0 hval0 hsz0 hsz
  refine (P.selvedgelaw20_OrderKnown.walk Pure.OrderKnown  W  (Ld.laid_bm hL)).mono fun e W' ⟨he, bel⟩ => ?_
  subst he
  exact ⟨_, rfl, _, _, _, [], _, [], hW', trodAll_mk1 (shut_bool Tryd.underlying4 _), trodAll_mk0, rfl, bel.frame _, fun h => by cases h⟩
theorem over : Rows.orderKnownRow.holds Tryd.pinned (OpenSpec.ofChange Rows.orderKnownSpec) :=
  OpenClaim.holds_of_wide 9 Tryd.f9 rfl rfl rfl rfl rfl rfl rfl ⟨rfl, rfl, rfl, rfl, rfl⟩ rfl rfl rfl rfl rfl (by kernel_rfl) Tryd.func9 (by kernel_rfl)
    (of_decide_eq_true (by kernel_rfl)) (by unfold Func.isWrapper; first | (rw [if_pos (by decide +kernel)]; kernel_rfl) | (rw [if_neg (by decide +kernel)]; exact ⟨rfl, rfl⟩))
    (fun os started H enc _ => lifted os started H enc)
theorem proved : Rows.OrderKnownSaid := over
theorem card : Rows.OrderKnownCardSaid :=
  Claim7.holds_tied_plain_at .later [] [.widerDeep, .widerDeep] true (true, "b541f640bc8c0658e470e45f8bfa48c145b07d7027167cc4f4aeffc1aadfae53") false
    over (fun _ h => by cases h) (by kernel_rfl) (fun _ h => by cases h) orderKnown_row_tie rfl ⟨rfl, rfl⟩ (by kernel_rfl) rfl
    (fun f fn hf hfn => by
      obtain rfl : f = 9 := Option.some.inj ((show Tryd.prog.funcNamed "selvedge/selvedgelaw20.OrderKnown" = some 9 by kernel_rfl).symm.trans hf) |>.symm
      obtain rfl : fn = Tryd.f9 := (Option.some.inj (Tryd.func9.symm.trans hfn)).symm
      exact ⟨by kernel_rfl, fun j t ht => by
        rw [Tryd.params9] at ht
        simp at ht⟩)
    (by kernel_rfl)
#print axioms card
end Go.Proofs.YtgfkbijmchoolaaDoor.orderKnown
namespace Go.Proofs.YtgfkbijmchoolaaDoor
theorem orderKnown_holds : Rows.OrderKnownCardSaid := orderKnown.card
end Go.Proofs.YtgfkbijmchoolaaDoor

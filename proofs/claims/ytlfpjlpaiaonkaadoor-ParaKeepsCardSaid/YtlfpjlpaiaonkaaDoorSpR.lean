/- Layer 13: right. -/
import Derived.Test.YtlfpjlpaiaonkaaDoorSpO
namespace Go.Proofs.YtlfpjlpaiaonkaaDoor.Sp
open Go.RowKit Go.Proofs.YtlfpjlpaiaonkaaDoorW.PrintWords Go.Proofs.YtlfpjlpaiaonkaaDoorW.PrintLast Go.Proofs.YtlfpjlpaiaonkaaDoorW.PrintMore Go.Proofs.YtlfpjlpaiaonkaaDoorH Go.Proofs.YtlfpjlpaiaonkaaDoor.P Go.Proofs.YtlfpjlpaiaonkaaDoor.Mp
set_option linter.unusedVariables false
set_option linter.unusedSimpArgs false
def runR (n : Int) : List Itm → List Int → Bool
  | [], op => op.isEmpty
  | x :: xs, op =>
    if x.f1 < 0 ∨ n ≤ x.f1 ∨ x.f0 < 1 ∨ 4 < x.f0 then false
    else if x.f0 = 1 then runR n xs (op ++ [x.f1])
    else if x.f0 = 2 then (if 0 < op.length ∧ op.getD (op.length - 1) 0 = x.f1 then runR n xs (op.take (op.length - 1)) else false)
    else runR n xs op
def rightB (block : Int) (items : List Itm) (st : List Sty) : Bool := if block < 0 ∨ (st.length : Int) ≤ block ∨ st.all mayB = false then false else runR st.length items []
abbrev kItm := k47
theorem runR_step (n : Int) (items : List Itm) (i : Nat) (op : List Int) (h : i < items.length) (x : Itm) (hx : items.getD i z47 = x) : runR n (items.drop i) op =
    (if x.f1 < 0 ∨ n ≤ x.f1 ∨ x.f0 < 1 ∨ 4 < x.f0 then false
    else if x.f0 = 1 then runR n (items.drop (i + 1)) (op ++ [x.f1])
    else if x.f0 = 2 then (if 0 < op.length ∧ op.getD (op.length - 1) 0 = x.f1 then runR n (items.drop (i + 1)) (op.take (op.length - 1)) else false)
    else runR n (items.drop (i + 1)) op) := by
  have : items[i] = x := by rw [← hx, List.getD_eq_getElem?_getD, List.getElem?_eq_getElem h]; rfl
  rw [List.drop_eq_getElem_cons h, this]
  rfl
theorem cut_to3 (t e : TypeId) (kh km : IntKind) {P : Program} {i : TypeInfo} (ht : P.underlying t = some (.slice e)) (hi : P.info? e = some i) (A : Option Addr) (n c : Nat) (j : Int) (h0 : 0 ≤ j) (hm : j ≤ n) (hc : n ≤ c) :
    ∀ W : World, (Instr.slice t (.slice A n c) none (some (.int kh j)) (some (.int km j))).run P W = .ok (.slice A j.toNat j.toNat) W := by
  intro W
  have hel : P.elem t = e := by simp [Program.elem, ht]
  have hu : P.underlying t = some (.slice (P.elem t)) := by rw [hel]; exact ht
  have ha : (A.map fun x => x.add 0) = A := by cases A <;> simp [Addr.add]
  rw [run_slice_hm W t A n c hu kh km j j h0 (Int.le_refl _) (by omega), hel]
  simp [sizeOf, typeInfo, hi, sliced, Result.andThen, ha]
set_option maxHeartbeats 8000000 in
set_option maxRecDepth 100000 in
theorem right_calls (block : Int) (AI A : Option Addr) (cI c : Nat) (items : List Itm) (st : List Sty) (w : World) (hI : Kd.C kItm w AI items.length items) (hcI : items.length ≤ cI) (hS : Kd.C kSty w A st.length st) (hc : st.length ≤ c) (hli : items.length ≤ 1000000000) (hls : st.length ≤ 100000000000) :
    Calls Tryd.prog 21 #[.agg #[.int .i64 block, .slice AI items.length cI], .slice A st.length c] w fun e w' => e = .returned (.bool (rightB block items st)) ∧ Below w.heap.size w w' := by
  have HB := Aside0.mk (Below.refl w.heap.size w)
  have HI := Aside0.mk hI
  have HC := Aside0.mk hcI
  have HS := Aside0.mk hS
  have HSC := Aside0.mk hc
  have HLI := Aside0.mk hli
  have HLS := Aside0.mk hls
  clear hI hcI hS hc hli hls
  by_cases h0 : block < 0
  · have HR := Aside0.mk (show rightB block items st = false by unfold rightB; rw [if_pos (.inl h0)])
    rw [HR.out]
    replace h0 := decide_eq_true h0
    go_enter Tryd.func21, Tryd.ntmps21
    go_wp2
    go_ret
    exact ⟨rfl, below_alloc HB.out _⟩
  · by_cases h1 : (st.length : Int) ≤ block
    · have HR := Aside0.mk (show rightB block items st = false by unfold rightB; rw [if_pos (.inr (.inl h1))])
      rw [HR.out]
      replace h0 := decide_eq_false h0
      replace h1 := decide_eq_true h1
      go_enter Tryd.func21, Tryd.ntmps21
      go_wp2
      go_ret
      exact ⟨rfl, below_alloc HB.out _⟩
    · cases hm : st.all mayB
      · have HR := Aside0.mk (show rightB block items st = false by unfold rightB; rw [if_pos (.inr (.inr hm))])
        rw [HR.out]
        have HM := Aside0.mk hm
        clear hm
        replace h0 := decide_eq_false h0
        replace h1 := decide_eq_false h1
        go_enter Tryd.func21, Tryd.ntmps21
        go_wp2_with (go_at_call 33; refine (contains_calls A c st _ (Kd.C_below HS.out ((Below.refl _ w).alloc (Nat.le_refl _) _)) HSC.out HLS.out).mono ?_; rintro e w2 ⟨rfl, hb⟩; rw [HM.out]; have HB2 := Aside0.mk (below_step (below_alloc HB.out _) hb); clear hb)
        go_ret
        exact ⟨rfl, HB2.out⟩
      · have HR := Aside0.mk (show rightB block items st = runR st.length items [] by unfold rightB; rw [if_neg (by rw [hm]; simp; omega)])
        rw [HR.out]
        obtain ⟨R, hR⟩ : ∃ R, runR st.length items [] = R := ⟨_, rfl⟩
        rw [hR]
        have HRR := Aside0.mk hR
        clear hR HR
        have HM := Aside0.mk hm
        clear hm
        replace h0 := decide_eq_false h0
        replace h1 := decide_eq_false h1
        go_enter Tryd.func21, Tryd.ntmps21
        go_wp2_with (go_at_call 33; refine (contains_calls A c st _ (Kd.C_below HS.out ((Below.refl _ w).alloc (Nat.le_refl _) _)) HSC.out HLS.out).mono ?_; rintro e w2 ⟨rfl, hb⟩; rw [HM.out]; have HB2 := Aside0.mk (below_step (below_alloc HB.out _) hb); have hfl := blk_cell (blk_below (blk_new w (.cells #[.int .i64 block, .slice AI items.length cI] 24)) hb) 1; simp only [List.getElem?_toArray, List.getElem?_cons_zero, List.getElem?_cons_succ] at hfl; clear hb)
        clear HM hfl h0 h1
        obtain ⟨i62, hi62, -⟩ := Option.map_eq_some_iff.1 info_int
        have HI62 := Aside0.mk hi62
        clear hi62
        go_loopg [5, 26] items.length (fun gk v5 v26 wr => ∃ (i : Nat) (op : List Int), v26 = .int .i64 (i : Int) ∧ Aside0 (gk = items.length - i ∧ i ≤ items.length ∧ op.length ≤ i ∧ runR st.length (items.drop i) op = R) ∧ Aside0 (IR wr w.heap.size v5 op) ∧ Aside0 (Below w.heap.size w wr))
        case atStart => exact ⟨0, [], rfl, ⟨rfl, Nat.zero_le _, Nat.le_refl _, HRR.out⟩, ⟨IR.nil _ _⟩, HB2⟩
        case round =>
          clear HB2 HRR HB
          obtain ⟨i, op, rfl, HQ, HO, HBR⟩ := hrel
          obtain ⟨A5, c5, rfl, hc5⟩ := HO.out.form
          have hopl : (op.length : Int) ≤ 1000000000 := by have := HQ.out.2.1; have := HQ.out.2.2.1; have := HLI.out; omega
          by_cases hi : i < items.length
          · obtain ⟨ad, hA, x0, x1, x2, x3, x4⟩ := at_T47 (Kd.C_below HI.out HBR.out) (i : Int) (by omega) (by omega)
            cases hA
            rw [Int.toNat_natCast] at x0 x1 x2 x3 x4
            obtain ⟨x, hx⟩ : ∃ x, rd_T47 items (i : Int) = x := ⟨_, rfl⟩
            have HST := Aside0.mk (runR_step st.length items i op hi x hx)
            rw [hx] at x0 x1 x2 x3 x4
            have hi2 : (i : Int) < (items.length : Int) := by omega
            have hi3 : (i : Int) < 1000000000 := by have := HLI.out; omega
            have HIL := Aside0.mk hi
            clear hx hi
            have HC5 := Aside0.mk hc5
            clear hc5
            have HSTEP := HST.out
            clear HST
            by_cases k0 : x.f1 < 0
            · rw [if_pos (.inl k0)] at HSTEP
              have HX := Aside0.mk (show R = false from HQ.out.2.2.2.symm.trans HSTEP)
              clear HSTEP
              replace k0 := decide_eq_true k0
              go_wp2
              go_ret
              exact ⟨by rw [HX.out]; rfl, below_alloc HBR.out _⟩
            · by_cases k1 : (st.length : Int) ≤ x.f1
              · rw [if_pos (.inr (.inl k1))] at HSTEP
                have HX := Aside0.mk (show R = false from HQ.out.2.2.2.symm.trans HSTEP)
                clear HSTEP
                replace k0 := decide_eq_false k0
                replace k1 := decide_eq_true k1
                go_wp2
                go_ret
                exact ⟨by rw [HX.out]; rfl, below_alloc HBR.out _⟩
              · by_cases k2 : x.f0 < 1
                · rw [if_pos (.inr (.inr (.inl k2)))] at HSTEP
                  have HX := Aside0.mk (show R = false from HQ.out.2.2.2.symm.trans HSTEP)
                  clear HSTEP
                  replace k0 := decide_eq_false k0
                  replace k1 := decide_eq_false k1
                  replace k2 := decide_eq_true k2
                  go_wp2
                  go_ret
                  exact ⟨by rw [HX.out]; rfl, below_alloc HBR.out _⟩
                · by_cases k3 : 4 < x.f0
                  · rw [if_pos (.inr (.inr (.inr k3)))] at HSTEP
                    have HX := Aside0.mk (show R = false from HQ.out.2.2.2.symm.trans HSTEP)
                    clear HSTEP
                    replace k0 := decide_eq_false k0
                    replace k1 := decide_eq_false k1
                    replace k2 := decide_eq_false k2
                    replace k3 := decide_eq_true k3
                    go_wp2
                    go_ret
                    exact ⟨by rw [HX.out]; rfl, below_alloc HBR.out _⟩
                  · rw [if_neg (by omega)] at HSTEP
                    replace k0 := decide_eq_false k0
                    replace k1 := decide_eq_false k1
                    replace k2 := decide_eq_false k2
                    replace k3 := decide_eq_false k3
                    by_cases k4 : x.f0 = 1
                    · rw [if_pos k4] at HSTEP
                      have HX := Aside0.mk (HSTEP.symm.trans HQ.out.2.2.2)
                      clear HSTEP
                      rw [k4] at x0 k2 k3
                      clear k2 k3 k4
                      go_wp2_with ((with_reducible refine gate_builtin (b := .append) (xs := #[.tmp 54, .tmp 57]) rfl ?_); at_builtin; refine IR.append rfl (.tmp 54) (.tmp 57) 62 rfl Tryd.underlying62 info_int w.heap.size _ op x.f1 rfl rfl (by first | rfl | simp) (HO.out.below ((Below.refl _ _).alloc (Nat.le_refl _) _)) (below_alloc HBR.out _) ?aS ?aL ?_; (case aS => have := HBR.out.size; simp; omega); (case aL => omega); intro v1 w1 hr hb; have HO1 := Aside0.mk hr; have HB1 := Aside0.mk hb; clear hr hb)
                      go_roundg (items.length - (i + 1))
                      case measure => have := HQ.out.1; have := HIL.out; omega
                      case rel => exact ⟨i + 1, op ++ [x.f1], by go_num, ⟨rfl, HIL.out, by simp; exact HQ.out.2.2.1, HX.out⟩, HO1, HB1⟩
                    · rw [if_neg k4] at HSTEP
                      have k4b : (x.f0 == 1) = false := by simpa using k4
                      by_cases k5 : x.f0 = 2
                      · rw [if_pos k5] at HSTEP
                        rw [k5] at x0 k2 k3
                        clear k4 k4b k5
                        by_cases k6 : 0 < op.length
                        · obtain ⟨m, hm⟩ : ∃ m, op.length = m + 1 := ⟨op.length - 1, by omega⟩
                          obtain ⟨gb, hA5, y0⟩ := HO.out.at m (by omega)
                          subst hA5
                          obtain ⟨q, hq⟩ : ∃ q, op.getD m 0 = q := ⟨_, rfl⟩
                          rw [hq] at y0
                          have hms : op.length - 1 = m := by omega
                          rw [hms, hq] at HSTEP
                          have y1 : (wr.alloc (.cells #[.int .u8 2, .int .i64 x.f1, .bool x.f2, .int .i32 x.f3, .int .i64 x.f4] 47)).cell? ⟨gb, m, none⟩ = some (.int .i64 q) := (World.cell?_alloc_lt wr _ _ (World.block_lt_of_cell? _ _ y0)).trans y0
                          have hcut := cut_to3 (P := Tryd.prog) 62 3 .i64 .i64 Tryd.underlying62 HI62.out (some ⟨gb, 0, none⟩) (m + 1) c5 (m : Int) (by omega) (by omega) (by have := HC5.out; omega)
                          rw [Int.toNat_natCast] at hcut
                          have HOM := Aside0.mk hm
                          have HO2 := Aside0.mk (HO.out.take (m := m) (by omega))
                          rw [hm] at hopl ⊢
                          have hsub : ((m + 1 : Nat) : Int) - 1 = (m : Int) := by omega
                          have hmb : (m : Int) < 1000000000 := by omega
                          have hm0 : decide ((m : Int) < 0) = false := decide_eq_false (by omega)
                          by_cases k7 : q = x.f1
                          · rw [if_pos ⟨k6, k7⟩] at HSTEP
                            have HX := Aside0.mk (HSTEP.symm.trans HQ.out.2.2.2)
                            clear HSTEP k6 hm hq hms
                            have k7b : (q != x.f1) = false := by simp [k7]
                            clear k7
                            go_wp2
                            go_quiet (fail)
                            go_wp2
                            go_roundg (items.length - (i + 1))
                            case measure => have := HQ.out.1; have := HIL.out; omega
                            case rel => exact ⟨i + 1, op.take m, by go_num, ⟨rfl, HIL.out, by have := HQ.out.2.2.1; rw [List.length_take]; omega, HX.out⟩, ⟨HO2.out.below (pw_below_drewN ((Below.refl _ _).alloc (Nat.le_refl _) _) nq)⟩, ⟨pw_below_drewN (below_alloc HBR.out _) nq⟩⟩
                          · rw [if_neg (fun h => k7 h.2)] at HSTEP
                            have HX := Aside0.mk (show R = false from HQ.out.2.2.2.symm.trans HSTEP)
                            clear HSTEP k6 hm hq hms
                            have k7b : (q != x.f1) = true := by simp [k7]
                            clear k7
                            go_wp2
                            go_quiet (fail)
                            go_wp2
                            go_ret
                            exact ⟨by rw [HX.out]; rfl, pw_below_drewN (below_alloc HBR.out _) nq⟩
                        · rw [if_neg (fun h => k6 h.1)] at HSTEP
                          have HX := Aside0.mk (show R = false from HQ.out.2.2.2.symm.trans HSTEP)
                          have hz : op.length = 0 := by omega
                          rw [hz]
                          clear HSTEP k6
                          go_wp2
                          go_quiet (fail)
                          go_wp2
                          go_ret
                          exact ⟨by rw [HX.out]; rfl, pw_below_drewN (below_alloc HBR.out _) nq⟩
                      · rw [if_neg k5] at HSTEP
                        have HX := Aside0.mk (HSTEP.symm.trans HQ.out.2.2.2)
                        clear HSTEP
                        have k5b : (x.f0 == 2) = false := by simpa using k5
                        clear k4 k5
                        go_wp2
                        go_roundg (items.length - (i + 1))
                        case measure => have := HQ.out.1; have := HIL.out; omega
                        case rel => exact ⟨i + 1, op, by go_num, ⟨rfl, HIL.out, Nat.le_succ_of_le HQ.out.2.2.1, HX.out⟩, ⟨HO.out.below ((Below.refl _ _).alloc (Nat.le_refl _) _)⟩, ⟨below_alloc HBR.out _⟩⟩
          · obtain rfl : i = items.length := by have := HQ.out.2.1; omega
            have he : R = ((op.length : Int) == 0) := by
              have := HQ.out.2.2.2
              rw [List.drop_length] at this
              rw [← this]
              cases op <;> simp [runR] <;> omega
            have HE := Aside0.mk he
            clear he
            go_wp2
            go_ret
            exact ⟨by rw [HE.out]; rfl, HBR.out⟩
end Go.Proofs.YtlfpjlpaiaonkaaDoor.Sp

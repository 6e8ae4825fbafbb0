/- Layer 13: may; slices.ContainsFunc over it. -/
import Derived.Test.YtlfpjlpaiaonkaaDoorSpM
namespace Go.Proofs.YtlfpjlpaiaonkaaDoor.Sp
open Go.RowKit Go.Proofs.YtlfpjlpaiaonkaaDoorW.PrintWords Go.Proofs.YtlfpjlpaiaonkaaDoorW.PrintLast Go.Proofs.YtlfpjlpaiaonkaaDoorW.PrintMore Go.Proofs.YtlfpjlpaiaonkaaDoorH Go.Proofs.YtlfpjlpaiaonkaaDoor.P Go.Proofs.YtlfpjlpaiaonkaaDoor.Mp
set_option linter.unusedVariables false
set_option linter.unusedSimpArgs false
def styC (s : Sty) : Array Value := #[.int .u8 s.f0, .int .u8 s.f1, .int .u8 s.f2, .int .u8 s.f3, .int .i64 s.f4, .int .i64 s.f5]
def mayB (s : Sty) : Bool := decide (s.f0 ≤ 2) && decide (s.f1 ≤ 1) && decide (s.f2 ≤ 5) && decide (s.f3 ≤ 1) && decide (0 ≤ s.f4) && decide (s.f4 ≤ 12288) && decide (0 ≤ s.f5) && decide (s.f5 ≤ 12288)
theorem mayB_true {s : Sty} (h : mayB s = true) : s.f0 ≤ 2 ∧ s.f1 ≤ 1 ∧ s.f2 ≤ 5 ∧ s.f3 ≤ 1 ∧ 0 ≤ s.f4 ∧ s.f4 ≤ 12288 ∧ 0 ≤ s.f5 ∧ s.f5 ≤ 12288 := by
  simp [mayB] at h
  obtain ⟨⟨⟨⟨⟨⟨⟨h0, h1⟩, h2⟩, h3⟩, h4⟩, h5⟩, h6⟩, h7⟩ := h
  exact ⟨h0, h1, h2, h3, h4, h5, h6, h7⟩
set_option maxHeartbeats 8000000 in
set_option maxRecDepth 100000 in
theorem may_calls (s : Sty) (w : World) : Calls Tryd.prog 35 #[.agg (styC s)] w fun e w' => e = .returned (.bool (mayB s)) ∧ Below w.heap.size w w' := by
  have HB := Aside0.mk (Below.refl w.heap.size w)
  by_cases h0 : s.f0 ≤ 2
  · by_cases h1 : s.f1 ≤ 1
    · by_cases h2 : s.f2 ≤ 5
      · by_cases h3 : s.f3 ≤ 1
        · by_cases h4 : 0 ≤ s.f4
          · by_cases h5 : s.f4 ≤ 12288
            · by_cases h6 : 0 ≤ s.f5
              · by_cases h7 : s.f5 ≤ 12288
                · have HR := Aside0.mk (show mayB s = true by simp [mayB, h0, h1, h2, h3, h4, h5, h6, h7])
                  replace h0 := decide_eq_true h0; replace h1 := decide_eq_true h1; replace h2 := decide_eq_true h2; replace h3 := decide_eq_true h3; replace h4 := decide_eq_true h4; replace h5 := decide_eq_true h5; replace h6 := decide_eq_true h6; replace h7 := decide_eq_true h7
                  rw [HR.out]
                  unfold styC
                  go_enter Tryd.func35, Tryd.ntmps35
                  go_wp2
                  go_ret
                  exact ⟨rfl, below_alloc HB.out _⟩
                · have HR := Aside0.mk (show mayB s = false by simp [mayB, h0, h1, h2, h3, h4, h5, h6, h7])
                  replace h0 := decide_eq_true h0; replace h1 := decide_eq_true h1; replace h2 := decide_eq_true h2; replace h3 := decide_eq_true h3; replace h4 := decide_eq_true h4; replace h5 := decide_eq_true h5; replace h6 := decide_eq_true h6; replace h7 := decide_eq_false h7
                  rw [HR.out]
                  unfold styC
                  go_enter Tryd.func35, Tryd.ntmps35
                  go_wp2
                  go_ret
                  exact ⟨rfl, below_alloc HB.out _⟩
              · have HR := Aside0.mk (show mayB s = false by simp [mayB, h0, h1, h2, h3, h4, h5, h6])
                replace h0 := decide_eq_true h0; replace h1 := decide_eq_true h1; replace h2 := decide_eq_true h2; replace h3 := decide_eq_true h3; replace h4 := decide_eq_true h4; replace h5 := decide_eq_true h5; replace h6 := decide_eq_false h6
                rw [HR.out]
                unfold styC
                go_enter Tryd.func35, Tryd.ntmps35
                go_wp2
                go_ret
                exact ⟨rfl, below_alloc HB.out _⟩
            · have HR := Aside0.mk (show mayB s = false by simp [mayB, h0, h1, h2, h3, h4, h5])
              replace h0 := decide_eq_true h0; replace h1 := decide_eq_true h1; replace h2 := decide_eq_true h2; replace h3 := decide_eq_true h3; replace h4 := decide_eq_true h4; replace h5 := decide_eq_false h5
              rw [HR.out]
              unfold styC
              go_enter Tryd.func35, Tryd.ntmps35
              go_wp2
              go_ret
              exact ⟨rfl, below_alloc HB.out _⟩
          · have HR := Aside0.mk (show mayB s = false by simp [mayB, h0, h1, h2, h3, h4])
            replace h0 := decide_eq_true h0; replace h1 := decide_eq_true h1; replace h2 := decide_eq_true h2; replace h3 := decide_eq_true h3; replace h4 := decide_eq_false h4
            rw [HR.out]
            unfold styC
            go_enter Tryd.func35, Tryd.ntmps35
            go_wp2
            go_ret
            exact ⟨rfl, below_alloc HB.out _⟩
        · have HR := Aside0.mk (show mayB s = false by simp [mayB, h0, h1, h2, h3])
          replace h0 := decide_eq_true h0; replace h1 := decide_eq_true h1; replace h2 := decide_eq_true h2; replace h3 := decide_eq_false h3
          rw [HR.out]
          unfold styC
          go_enter Tryd.func35, Tryd.ntmps35
          go_wp2
          go_ret
          exact ⟨rfl, below_alloc HB.out _⟩
      · have HR := Aside0.mk (show mayB s = false by simp [mayB, h0, h1, h2])
        replace h0 := decide_eq_true h0; replace h1 := decide_eq_true h1; replace h2 := decide_eq_false h2
        rw [HR.out]
        unfold styC
        go_enter Tryd.func35, Tryd.ntmps35
        go_wp2
        go_ret
        exact ⟨rfl, below_alloc HB.out _⟩
    · have HR := Aside0.mk (show mayB s = false by simp [mayB, h0, h1])
      replace h0 := decide_eq_true h0; replace h1 := decide_eq_false h1
      rw [HR.out]
      unfold styC
      go_enter Tryd.func35, Tryd.ntmps35
      go_wp2
      go_ret
      exact ⟨rfl, below_alloc HB.out _⟩
  · have HR := Aside0.mk (show mayB s = false by simp [mayB, h0])
    replace h0 := decide_eq_false h0
    rw [HR.out]
    unfold styC
    go_enter Tryd.func35, Tryd.ntmps35
    go_wp2
    go_ret
    exact ⟨rfl, below_alloc HB.out _⟩
set_option maxHeartbeats 4000000 in
theorem lit_calls (s : Sty) (w : World) : Calls Tryd.prog 34 #[.agg (styC s)] w fun e w' => e = .returned (.bool (!mayB s)) ∧ Below w.heap.size w w' := by
  have HB := Aside0.mk (Below.refl w.heap.size w)
  have HM := Aside0.mk (may_calls s (w.alloc (.cells (styC s) 52)))
  unfold styC at *
  go_enter Tryd.func34, Tryd.ntmps34
  go_wp2_with (go_at_call 35; refine HM.out.mono ?_; rintro e w2 ⟨rfl, hb⟩; have HB2 := Aside0.mk hb; clear hb)
  go_ret
  exact ⟨rfl, below_step (below_alloc HB.out _) HB2.out⟩
set_option maxHeartbeats 8000000 in
set_option maxRecDepth 100000 in
theorem index_calls (A : Option Addr) (c : Nat) (xs : List Sty) (w : World) (h : Kd.C kSty w A xs.length xs) (hc : xs.length ≤ c) (hl : xs.length ≤ 100000000000) :
    Calls Tryd.prog 49 #[.slice A xs.length c, .func (.func 34) #[] #[]] w fun e w' => (∃ r : Int, e = .returned (.int .i64 r) ∧ decide (0 ≤ r) = !xs.all mayB) ∧ Below w.heap.size w w' := by
  have HH := Aside0.mk h
  have HC := Aside0.mk hc
  have HL := Aside0.mk hl
  have HB := Aside0.mk (Below.refl w.heap.size w)
  clear h hc hl
  go_enter Tryd.func49, Tryd.ntmps49
  go_wp2
  go_loopg [8] xs.length (fun gk v8 wr => ∃ i : Nat, v8 = .int .i64 (i : Int) ∧ Aside0 (gk = xs.length - i ∧ i ≤ xs.length ∧ ∀ j, j < i → mayB (xs.getD j z52) = true) ∧ Aside0 (Below w.heap.size w wr))
  case atStart => exact ⟨0, rfl, ⟨rfl, Nat.zero_le _, fun j hj => by omega⟩, HB⟩
  case round =>
    obtain ⟨i, rfl, HQ, HBR⟩ := hrel
    by_cases hi : i < xs.length
    · obtain ⟨ad, rfl, x0, x1, x2, x3, x4, x5⟩ := at_T52 (Kd.C_below HH.out HBR.out) (i : Int) (by omega) (by omega)
      rw [Int.toNat_natCast] at x0 x1 x2 x3 x4 x5
      obtain ⟨o, ho⟩ : ∃ o, rd_T52 xs (i : Int) = o := ⟨_, rfl⟩
      have HO := Aside0.mk (show xs.getD i z52 = o from ho)
      rw [ho] at x0 x1 x2 x3 x4 x5
      have HM := Aside0.mk (lit_calls o wr)
      unfold styC at HM
      have hi2 : (i : Int) < (xs.length : Int) := by omega
      have hi3 : (i : Int) < 100000000000 := by have := HL.out; omega
      clear ho
      cases hm : mayB o
      · have HF := Aside0.mk hm
        rw [hm] at HM
        clear hm
        go_wp2_with (go_at_call 34; refine HM.out.mono ?_; rintro e w2 ⟨rfl, hb⟩; have HB2 := Aside0.mk hb; clear hb)
        go_ret
        refine ⟨⟨_, rfl, ?_⟩, HBR.out.trans (HB2.out.mono HBR.out.size)⟩
        have hmem : o ∈ xs := by
          rw [← HO.out, List.getD_eq_getElem?_getD, List.getElem?_eq_getElem hi]
          exact List.getElem_mem _
        have : xs.all mayB = false := by
          rw [List.all_eq_false]
          exact ⟨o, hmem, by rw [HF.out]; decide⟩
        rw [this]
        simp
      · have HF := Aside0.mk hm
        rw [hm] at HM
        clear hm
        go_wp2_with (go_at_call 34; refine HM.out.mono ?_; rintro e w2 ⟨rfl, hb⟩; have HB2 := Aside0.mk hb; clear hb)
        go_roundg (xs.length - (i + 1))
        case measure => have := HQ.out.1; omega
        case rel =>
          refine ⟨i + 1, by go_num, ⟨rfl, by omega, fun j hj => ?_⟩, ⟨HBR.out.trans (HB2.out.mono HBR.out.size)⟩⟩
          by_cases he : j < i
          · exact HQ.out.2.2 j he
          · rw [show j = i by omega, HO.out, HF.out]
    · obtain rfl : i = xs.length := by have := HQ.out.2.1; omega
      go_wp2
      go_ret
      refine ⟨⟨_, rfl, ?_⟩, HBR.out⟩
      have : xs.all mayB = true := by
        rw [List.all_eq_true]
        intro x hx
        obtain ⟨j, hj, he⟩ := List.getElem_of_mem hx
        have := HQ.out.2.2 j hj
        rw [List.getD_eq_getElem?_getD, List.getElem?_eq_getElem hj] at this
        rw [← he]
        exact this
      rw [this]
      rfl
set_option maxHeartbeats 4000000 in
theorem contains_calls (A : Option Addr) (c : Nat) (xs : List Sty) (w : World) (h : Kd.C kSty w A xs.length xs) (hc : xs.length ≤ c) (hl : xs.length ≤ 100000000000) :
    Calls Tryd.prog 33 #[.slice A xs.length c, .func (.func 34) #[] #[]] w fun e w' => e = .returned (.bool (!xs.all mayB)) ∧ Below w.heap.size w w' := by
  have HM := Aside0.mk (index_calls A c xs w h hc hl)
  clear h hc hl
  go_enter Tryd.func33, Tryd.ntmps33
  go_wp2_with (go_at_call 49; refine HM.out.mono ?_; rintro e w2 ⟨⟨r, rfl, hr⟩, hb⟩; have HB2 := Aside0.mk hb; have HR := Aside0.mk hr; clear hb hr)
  go_ret
  refine ⟨?_, HB2.out⟩
  rw [← HR.out]
  rfl
end Go.Proofs.YtlfpjlpaiaonkaaDoor.Sp

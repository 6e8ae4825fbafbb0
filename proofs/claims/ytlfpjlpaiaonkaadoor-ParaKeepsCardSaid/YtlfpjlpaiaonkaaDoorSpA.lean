/- Layer 13's splitter: overrides, close, enter, begin. -/
import Derived.Test.YtlfpjlpaiaonkaaDoorSpPut
import Derived.Test.YtlfpjlpaiaonkaaDoorSpCtl
import Derived.Test.YtlfpjlpaiaonkaaDoorP3
import Derived.Outline
namespace Go.Proofs.YtlfpjlpaiaonkaaDoor.Sp
open Go.RowKit Go.Proofs.YtlfpjlpaiaonkaaDoorW.PrintWords Go.Proofs.YtlfpjlpaiaonkaaDoorW.PrintLast Go.Proofs.YtlfpjlpaiaonkaaDoorW.PrintMore Go.Proofs.YtlfpjlpaiaonkaaDoorH Go.Proofs.YtlfpjlpaiaonkaaDoor.P
attribute [local go_sem] max2_int min2_int max_two min_two max_three min_three max_four min_four
set_option linter.unusedVariables false
set_option linter.unusedSimpArgs false
def u8 (x : Int) : Prop := 0 ≤ x ∧ x ≤ 255
set_option maxHeartbeats 4000000 in
set_option maxRecDepth 100000 in
theorem overrides_calls (w0 w : World) (g : Nat) (ok : Nat → Prop) (S : Sp) (vs vo vl vp vn : Value) (hV : SpV w0 w g ok S vs vo vl vp vn) (hu : u8 S.block.f1) (hG : LaidW w) :
    Calls Tryd.prog 36 #[.pointer (some ⟨g, 0, none⟩)] w fun e w' => e = .returned (.tuple #[.string (if overB S.block = true then (ctl 3 S.block.f1).1 else ⟨#[]⟩), .bool (overB S.block)]) ∧ Drawn0 w w' := by
  obtain ⟨hc0, hc1, hc2, hc3, hc4, hc5, hc6, hc7, hc8, hc9, hc10, hc11, hc12, hc13, hc14, hc15, hcf⟩ := sp_cells hV.blk
  clear hV
  have HU := Aside0.mk hu
  have HG := Aside0.mk hG
  clear hu hG
  unfold overB
  generalize S.block.f1 = d at *
  generalize S.block.f2 = b at *
  by_cases h3 : b = 3
  · subst h3
    go_enter Tryd.func36, Tryd.ntmps36
    go_wp2_with (go_at_call 14; refine (ctl_calls 3 d _ (by omega) HU.out HG.out).mono ?_; rintro e w1 ⟨rfl, hd⟩; have HD := Aside0.mk hd; clear hd)
    go_ret2
    exact ⟨rfl, HD.out⟩
  · by_cases h4 : b = 4
    · subst h4
      go_enter Tryd.func36, Tryd.ntmps36
      go_wp2_with (go_at_call 14; refine (ctl_calls 3 d _ (by omega) HU.out HG.out).mono ?_; rintro e w1 ⟨rfl, hd⟩; have HD := Aside0.mk hd; clear hd)
      go_ret2
      exact ⟨rfl, HD.out⟩
    · rw [decide_eq_false h3, decide_eq_false h4]
      have e3 : (b != 3) = true := by simpa using h3
      have e4 : (b != 4) = true := by simpa using h4
      go_enter Tryd.func36, Tryd.ntmps36
      go_wp2
      go_ret2
      exact ⟨rfl, Drawn0.refl w⟩
theorem dec_pdf : Dec ⟨#[226, 128, 172]⟩ 0 [0x202c] := dec_one _ _ _ _ (by kernel_rfl) (by decide)
set_option maxHeartbeats 4000000 in
set_option maxRecDepth 100000 in
theorem close_calls (w0 w : World) (g : Nat) (ok : Nat → Prop) (S : Sp) (vs vo vl vp vn : Value) (hV : SpV w0 w g ok S vs vo vl vp vn) (hB : Below w0.heap.size w0 w) (hok : ∀ k, w.heap.size ≤ k → ok k) (hu : u8 S.block.f1) (hG : LaidW w) (hl : S.L.length ≤ 100000000000) (hp : S.pieces.length ≤ 100000000000) :
    Calls Tryd.prog 24 #[.pointer (some ⟨g, 0, none⟩)] w fun e w' => e = .returned (.tuple #[]) ∧ (∃ vl' vp', SpV w0 w' g ok S.close vs vo vl' vp' vn) ∧ Below w0.heap.size w0 w' ∧ Kp w w' g ok := by
  have HV := Aside0.mk hV
  have HB := Aside0.mk hB
  have HK := Aside0.mk hok
  have HU := Aside0.mk hu
  have HG := Aside0.mk hG
  have HL := Aside0.mk hl
  have HP := Aside0.mk hp
  clear hV hB hok hu hG hl hp
  cases ho : overB S.block
  · have hs : S.close = S := by simp [Sp.close, ho]
    rw [hs]
    have HO := Aside0.mk ho
    clear ho hs
    go_enter Tryd.func24, Tryd.ntmps24
    go_wp2_with (go_at_call 36; refine (overrides_calls w0 _ g ok S vs vo vl vp vn HV.out HU.out HG.out).mono ?_; rintro e w1 ⟨rfl, hd⟩; have HD := Aside0.mk hd; clear hd; have HV1 := Aside0.mk (HV.out.below HD.out.below); have HB1 := Aside0.mk (below_step HB.out HD.out.below); have HK1 := Aside0.mk ((Kp.refl w g ok).below HD.out.below); rw [HO.out])
    go_end0
    exact ⟨rfl, ⟨_, _, HV1.out⟩, HB1.out, HK1.out⟩
  · have hs : S.close = S.put [0x202c] (-1) := by simp [Sp.close, ho]
    rw [hs]
    have HO := Aside0.mk ho
    clear ho hs
    go_enter Tryd.func24, Tryd.ntmps24
    go_wp2_with (first
      | (go_at_call 36; refine (overrides_calls w0 _ g ok S vs vo vl vp vn HV.out HU.out HG.out).mono ?_; rintro e w1 ⟨rfl, hd⟩; have HD := Aside0.mk hd; clear hd; have HV1 := Aside0.mk (HV.out.below HD.out.below); have HB1 := Aside0.mk (below_step HB.out HD.out.below); have HK1 := Aside0.mk ((Kp.refl w g ok).below HD.out.below); rw [HO.out])
      | (go_at_call 37; refine (put_calls w0 _ g ok S vs vo vl vp vn _ [0x202c] (-1) HV1.out HB1.out (fun k hk => HK.out k (Nat.le_trans HK1.out.1 hk)) dec_pdf (by have := HL.out; simp; omega) (by have := HP.out; simp; omega)).mono ?_; rintro e w2 ⟨rfl, hv, hb, hk⟩; have HV2 := Aside0.mk hv; have HB2 := Aside0.mk hb; have HK2 := Aside0.mk (HK1.out.trans hk); clear hv hb hk))
    go_end0
    exact ⟨rfl, HV2.out, HB2.out, HK2.out⟩
end Go.Proofs.YtlfpjlpaiaonkaaDoor.Sp

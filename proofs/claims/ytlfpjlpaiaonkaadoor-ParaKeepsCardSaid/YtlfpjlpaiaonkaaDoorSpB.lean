/- Layer 13's splitter: begin. -/
import Derived.Test.YtlfpjlpaiaonkaaDoorSpE
import Derived.Outline
namespace Go.Proofs.YtlfpjlpaiaonkaaDoor.Sp
open Go.RowKit Go.Proofs.YtlfpjlpaiaonkaaDoorW.PrintWords Go.Proofs.YtlfpjlpaiaonkaaDoorW.PrintLast Go.Proofs.YtlfpjlpaiaonkaaDoorW.PrintMore Go.Proofs.YtlfpjlpaiaonkaaDoorH Go.Proofs.YtlfpjlpaiaonkaaDoor.P
attribute [local go_sem] max2_int min2_int max_two min_two max_three min_three max_four min_four
set_option linter.unusedVariables false
set_option linter.unusedSimpArgs false
/-- The splitter whose paragraph is handed on (or none is begun): nothing is said of its places. -/
structure SpD (w0 w : World) (g : Nat) (ok : Nat → Prop) (S : Sp) (vs vo vl vp vn : Value) : Prop where
  blk : w.heap[g]? = some (.cells (spC S vs vo vl vp vn) tSp (0, 0))
  new : w0.heap.size ≤ g
  sty : ∃ A c, vs = .slice A S.styles.length c ∧ S.styles.length ≤ c ∧ Kd.C kSty w0 A S.styles.length S.styles
  out : Kd.S kPar tPar w w0.heap.size ok vo S.out
  opn : Kd.R kOpn tOpn w w0.heap.size ok vn S.opn
section
variable {w0 w w1 : World} {g : Nat} {ok : Nat → Prop} {S : Sp} {vs vo vl vp vn : Value}
theorem SpD.below (h : SpD w0 w g ok S vs vo vl vp vn) (hb : Below w.heap.size w w1) : SpD w0 w1 g ok S vs vo vl vp vn :=
  ⟨(hb.block g (blk_lt h.blk)).trans h.blk, h.new, h.sty, Kd.S_below h.out hb, Kd.R_below h.opn hb⟩
theorem SpD.set_ (h : SpD w0 w g ok S vs vo vl vp vn) (i : Nat) (u : Value) (S' : Sp) (vl' vp' : Value) (he : (spC S vs vo vl vp vn).setIfInBounds i u = spC S' vs vo vl' vp' vn)
    (hs : S'.styles = S.styles) (ho : S'.out = S.out) (hn : S'.opn = S.opn) : SpD w0 (w.setCell ⟨g, i, none⟩ u) g ok S' vs vo vl' vp' vn :=
  ⟨by rw [← he]; exact blk_set h.blk i u, h.new, by rw [hs]; exact h.sty, by rw [ho]; exact Kd.S_set h.out h.blk (by decide) i u, by rw [hn]; exact Kd.R_set h.opn h.blk (by decide) i u⟩
theorem SpV.dead (h : SpV w0 w g ok S vs vo vl vp vn) : SpD w0 w g ok S vs vo vl vp vn := ⟨h.blk, h.new, h.sty, Kd.S_mono h.out (fun _ hk => hk.1), h.opn⟩
/-- Its paragraph begun anew. -/
theorem SpD.live (h : SpD w0 w g ok S vs vo (.slice none 0 0) (.slice none 0 0) vn) (hl : S.L = []) (hp : S.pieces = []) : SpV w0 w g ok S vs vo (.slice none 0 0) (.slice none 0 0) vn :=
  ⟨h.blk, h.new, h.sty, Kd.S_mono h.out (fun _ hk => ⟨hk, by simp [Value.ownBlock]⟩), by rw [hl]; exact Kd.R_nil _ _ _ _ _, by rw [hp]; exact Kd.R_nil _ _ _ _ _, h.opn⟩
end
def Sp.fresh (S : Sp) : Sp := { S with base := if S.block.f2 = 5 then 2 else S.block.f1, L := [], brk := -1, pieces := [], started := false }
section
variable {w0 w : World} {g : Nat} {ok : Nat → Prop} {S : Sp} {vs vo vl vp vn : Value}
def W5 (w : World) (g : Nat) (S : Sp) : World := (((((w.setCell ⟨g, 9, none⟩ (.int .u8 S.block.f1)).setCell ⟨g, 10, none⟩ (.slice none 0 0)).setCell ⟨g, 11, none⟩ (.int .i64 (-1))).setCell ⟨g, 9, none⟩ (.int .u8 2)).setCell ⟨g, 12, none⟩ (.slice none 0 0)).setCell ⟨g, 15, none⟩ (.bool false)
def W0 (w : World) (g : Nat) (S : Sp) : World := ((((w.setCell ⟨g, 9, none⟩ (.int .u8 S.block.f1)).setCell ⟨g, 10, none⟩ (.slice none 0 0)).setCell ⟨g, 11, none⟩ (.int .i64 (-1))).setCell ⟨g, 12, none⟩ (.slice none 0 0)).setCell ⟨g, 15, none⟩ (.bool false)
theorem SpD.fresh5 (h : SpD w0 w g ok S vs vo vl vp vn) (h5 : S.block.f2 = 5) (hB : Below w0.heap.size w0 w) : SpV w0 (W5 w g S) g ok S.fresh vs vo (.slice none 0 0) (.slice none 0 0) vn ∧ Below w0.heap.size w0 (W5 w g S) ∧ Kp w (W5 w g S) g ok := by
  have h1 := h.set_ 9 (.int .u8 S.block.f1) { S with base := S.block.f1 } vl vp rfl rfl rfl rfl
  have h2 := h1.set_ 10 (.slice none 0 0) { S with base := S.block.f1, L := [] } (.slice none 0 0) vp rfl rfl rfl rfl
  have h3 := h2.set_ 11 (.int .i64 (-1)) { S with base := S.block.f1, L := [], brk := -1 } (.slice none 0 0) vp rfl rfl rfl rfl
  have h4 := h3.set_ 9 (.int .u8 2) { S with base := 2, L := [], brk := -1 } (.slice none 0 0) vp rfl rfl rfl rfl
  have h6 := h4.set_ 12 (.slice none 0 0) { S with base := 2, L := [], brk := -1, pieces := [] } (.slice none 0 0) (.slice none 0 0) rfl rfl rfl rfl
  have h7 := h6.set_ 15 (.bool false) S.fresh (.slice none 0 0) (.slice none 0 0) (by unfold Sp.fresh; rw [if_pos h5]; rfl) rfl rfl rfl
  have hg : w0.heap.size ≤ g := h.new
  exact ⟨h7.live rfl rfl, (((((hB.setCell hg _).setCell hg _).setCell hg _).setCell hg _).setCell hg _).setCell hg _, (((((((Kp.refl w g ok).set_ _ _).set_ _ _).set_ _ _).set_ _ _).set_ _ _).set_ _ _)⟩
theorem SpD.fresh0 (h : SpD w0 w g ok S vs vo vl vp vn) (h5 : ¬ S.block.f2 = 5) (hB : Below w0.heap.size w0 w) : SpV w0 (W0 w g S) g ok S.fresh vs vo (.slice none 0 0) (.slice none 0 0) vn ∧ Below w0.heap.size w0 (W0 w g S) ∧ Kp w (W0 w g S) g ok := by
  have h1 := h.set_ 9 (.int .u8 S.block.f1) { S with base := S.block.f1 } vl vp rfl rfl rfl rfl
  have h2 := h1.set_ 10 (.slice none 0 0) { S with base := S.block.f1, L := [] } (.slice none 0 0) vp rfl rfl rfl rfl
  have h3 := h2.set_ 11 (.int .i64 (-1)) { S with base := S.block.f1, L := [], brk := -1 } (.slice none 0 0) vp rfl rfl rfl rfl
  have h6 := h3.set_ 12 (.slice none 0 0) { S with base := S.block.f1, L := [], brk := -1, pieces := [] } (.slice none 0 0) (.slice none 0 0) rfl rfl rfl rfl
  have h7 := h6.set_ 15 (.bool false) S.fresh (.slice none 0 0) (.slice none 0 0) (by unfold Sp.fresh; rw [if_neg h5]; rfl) rfl rfl rfl
  have hg : w0.heap.size ≤ g := h.new
  exact ⟨h7.live rfl rfl, ((((hB.setCell hg _).setCell hg _).setCell hg _).setCell hg _).setCell hg _, ((((((Kp.refl w g ok).set_ _ _).set_ _ _).set_ _ _).set_ _ _).set_ _ _)⟩
end
theorem Sp.enter_parts (S : Sp) (o : Opn) (outer : Int) : (S.enter o outer).1.L.length ≤ S.L.length + 2 ∧ (S.enter o outer).1.pieces.length ≤ S.pieces.length + 2 ∧ S.count ≤ (S.enter o outer).1.count ∧ (S.enter o outer).1.count ≤ S.count + 1 ∧ (S.enter o outer).1.opn = S.opn := by
  have h := (ctlR_len o.f1.f2 o.f1.f1).1
  unfold Sp.enter
  cases isoB o.f1 <;> simp [Sp.put] <;> omega
theorem Sp.enterFrom_step (n i : Nat) (outer : Int) (S : Sp) (h : i < n) : Sp.enterFrom (n - i) i outer S = Sp.enterFrom (n - (i + 1)) (i + 1) (S.enter (S.opn.getD i z98) outer).2 ((S.enter (S.opn.getD i z98) outer).1.upd { S.opn.getD i z98 with f2 := (S.enter (S.opn.getD i z98) outer).2 } (some i)) := by
  obtain ⟨m, hm⟩ : ∃ m, n - i = m + 1 := ⟨n - i - 1, by omega⟩
  rw [hm, show n - (i + 1) = m by omega]
  rfl
theorem Sp.begin_eq (S : Sp) : S.begin_ = if overB S.block = true then Sp.enterFrom S.opn.length 0 0 (S.fresh.put (ctlR 3 S.block.f1).1 (-1)) else Sp.enterFrom S.opn.length 0 0 S.fresh := by
  unfold Sp.begin_ Sp.fresh
  cases overB S.block <;> rfl
set_option maxHeartbeats 8000000 in
set_option maxRecDepth 100000 in
theorem begin_calls (w0 w : World) (g : Nat) (ok : Nat → Prop) (S : Sp) (vs vo vl vp vn : Value) (hV : SpD w0 w g ok S vs vo vl vp vn) (hB : Below w0.heap.size w0 w) (hok : ∀ k, w.heap.size ≤ k → ok k)
    (hu : u8 S.block.f1) (ho : ∀ o, o ∈ S.opn → u8 o.f1.f1 ∧ u8 o.f1.f2) (hG : LaidW w0) (hn : S.opn.length ≤ 10000000000) (hc : 0 ≤ S.count ∧ S.count ≤ 10000000000) :
    Calls Tryd.prog 22 #[.pointer (some ⟨g, 0, none⟩)] w fun e' w' => e' = .returned (.tuple #[]) ∧
      (∃ vl' vp', SpV w0 w' g ok S.begin_ vs vo vl' vp' vn) ∧ Below w0.heap.size w0 w' ∧ Kp w w' g ok := by
  obtain ⟨An, cn, rfl⟩ := Kd.R_slice hV.opn
  obtain ⟨hc0, hc1, hc2, hc3, hc4, hc5, hc6, hc7, hc8, hc9, hc10, hc11, hc12, hc13, hc14, hc15, hcf⟩ := sp_cells hV.blk
  have HV := Aside0.mk hV
  have HB := Aside0.mk hB
  have HK := Aside0.mk hok
  have HU := Aside0.mk hu
  have HO := Aside0.mk ho
  have HG := Aside0.mk hG
  have HN := Aside0.mk hn
  have HC := Aside0.mk hc
  have HBE := Aside0.mk (Sp.begin_eq S)
  clear hV hB hok hu ho hG hn hc
  by_cases h5 : S.block.f2 = 5
  all_goals cases hov : overB S.block
  all_goals
    have HOV := Aside0.mk hov
    clear hov
    first
      | (have HF := Aside0.mk (HV.out.fresh5 h5 HB.out); have e5 : (S.block.f2 == 5) = true := by simpa using h5)
      | (have HF := Aside0.mk (HV.out.fresh0 h5 HB.out); have e5 : (S.block.f2 == 5) = false := by simpa using h5)
    clear h5
    go_enter Tryd.func22, Tryd.ntmps22
    go_wp2_with (first
      | (go_at_call 36; refine (overrides_calls w0 _ g ok S.fresh vs vo _ _ _ HF.out.1 HU.out (HG.out.below HF.out.2.1)).mono ?_; rintro e w1 ⟨rfl, hd⟩; have HD := Aside0.mk hd; clear hd; have HV1 := Aside0.mk (HF.out.1.below HD.out.below); have HB1 := Aside0.mk (below_step HF.out.2.1 HD.out.below); have HK1 := Aside0.mk (HF.out.2.2.below HD.out.below); have HOF : overB S.fresh.block = overB S.block := rfl; rw [HOF, HOV.out]; clear HOF; clear hc0 hc1 hc2 hc3 hc4 hc5 hc6 hc7 hc8 hc9 hc10 hc11 hc12 hc13 hc14 hc15 hcf; obtain ⟨hc0, hc1, hc2, hc3, hc4, hc5, hc6, hc7, hc8, hc9, hc10, hc11, hc12, hc13, hc14, hc15, hcf⟩ := sp_cells HV1.out.blk; have HV2 := HV1; have HB2 := HB1; have HK2 := HK1)
      | (go_at_call 37; refine (put_calls w0 _ g ok S.fresh vs vo _ _ _ _ (ctlR 3 S.block.f1).1 (-1) HV1.out HB1.out (fun k hk => HK.out k (Nat.le_trans HK1.out.1 hk)) (ctl_dec _ _).1 (by have := (ctlR_len 3 S.block.f1).1; show 0 + _ ≤ _; omega) (by have := (ctlR_len 3 S.block.f1).1; show 0 + _ ≤ _; omega)).mono ?_; rintro e w2 ⟨rfl, ⟨vl2, vp2, hv⟩, hb, hk⟩; clear HV2 HB2 HK2; have HV2 := Aside0.mk hv; have HB2 := Aside0.mk hb; have HK2 := Aside0.mk (HK1.out.trans hk); clear hv hb hk; clear hc0 hc1 hc2 hc3 hc4 hc5 hc6 hc7 hc8 hc9 hc10 hc11 hc12 hc13 hc14 hc15 hcf; obtain ⟨hc0, hc1, hc2, hc3, hc4, hc5, hc6, hc7, hc8, hc9, hc10, hc11, hc12, hc13, hc14, hc15, hcf⟩ := sp_cells HV2.out.blk))
    clear HV HF HB HV1 HB1 HK1 HD
    clear hc0 hc1 hc2 hc3 hc4 hc5 hc6 hc7 hc8 hc9 hc10 hc11 hc12 hc13 hc14 hc15 hcf e5
    go_loopg [4, 45] S.opn.length (fun gk v4 v45 wr => ∃ (i : Nat) (outer : Int) (S1 : Sp) (vl1 vp1 : Value), v4 = .int .i64 outer ∧ v45 = .int .i64 (i : Int) ∧
      Aside0 (gk = S.opn.length - i ∧ i ≤ S.opn.length ∧ S1.opn.length = S.opn.length ∧ S.begin_ = Sp.enterFrom (S.opn.length - i) i outer S1 ∧ S1.L.length ≤ 2 * (i + 1) ∧ S1.pieces.length ≤ 2 * (i + 1) ∧ 0 ≤ S1.count ∧ S1.count ≤ 10000000000 + i ∧ (∀ o, o ∈ S1.opn → u8 o.f1.f1 ∧ u8 o.f1.f2)) ∧
      Aside0 (SpV w0 wr g ok S1 vs vo vl1 vp1 (.slice An S.opn.length cn)) ∧ Aside0 (Below w0.heap.size w0 wr) ∧ Aside0 (Kp w wr g ok))
    case atStart =>
      have hbe := HBE.out
      rw [HOV.out] at hbe
      have hcl := (ctlR_len 3 S.block.f1).1
      have hcc := HC.out.2
      first
        | exact ⟨0, 0, S.fresh, _, _, rfl, rfl, ⟨by omega, by omega, rfl, hbe, by simp [Sp.fresh], by simp [Sp.fresh], HC.out.1, by simp [Sp.fresh]; omega, HO.out⟩, HV2, HB2, HK2⟩
        | exact ⟨0, 0, S.fresh.put (ctlR 3 S.block.f1).1 (-1), _, _, rfl, rfl, ⟨by omega, by omega, rfl, hbe, by simp [Sp.fresh, Sp.put]; omega, by simp [Sp.fresh, Sp.put]; omega, HC.out.1, by simp [Sp.fresh, Sp.put]; omega, HO.out⟩, HV2, HB2, HK2⟩
    case round =>
      clear HV2 HB2 HK2 HBE HOV
      obtain ⟨i, outer, S1, vl1, vp1, rfl, rfl, HQ, HV, HB, HKP⟩ := hrel
      by_cases hlt : i < S.opn.length
      · have hm : S.opn.length ≤ 9223372036854775807 := by have := HN.out; omega
        obtain ⟨b, cap, hvn, hbase, _, _⟩ := Kd.R_form HV.out.opn (by rw [HQ.out.2.2.1]; omega)
        obtain ⟨rfl, -, rfl⟩ : An = some ⟨b, 0, none⟩ ∧ S.opn.length = S1.opn.length ∧ cn = cap := by injection hvn with h1 h2 h3; exact ⟨h1, h2, h3⟩
        clear hvn
        obtain ⟨hc0, hc1, hc2, hc3, hc4, hc5, hc6, hc7, hc8, hc9, hc10, hc11, hc12, hc13, hc14, hc15, hcf⟩ := sp_cells HV.out.blk
        obtain ⟨o, hod⟩ : ∃ o, S1.opn.getD i z98 = o := ⟨_, rfl⟩
        have heq := Sp.enterFrom_step S.opn.length i outer S1 hlt
        have hmem : S1.opn.getD i z98 ∈ S1.opn := by
          rw [List.getD_eq_getElem?_getD, List.getElem?_eq_getElem (by rw [HQ.out.2.2.1]; exact hlt)]
          exact List.getElem_mem _
        rw [hod] at heq hmem
        have HEQ := Aside0.mk heq
        have HLO := Aside0.mk (show Loc wr g ok S1 (.slice (some ⟨b, 0, none⟩) S.opn.length cn) b (i * 8) o (some i) from ⟨cn, by rw [HQ.out.2.2.1], rfl, by rw [HQ.out.2.2.1]; exact hlt, hod⟩)
        have HBS := Aside0.mk hbase
        have HPA := Aside0.mk (Sp.enter_parts S1 o outer)
        have HME := Aside0.mk (HQ.out.2.2.2.2.2.2.2.2 _ hmem)
        clear hbase hmem heq hod
        go_wp2_with (first
          | (go_at_call 38; refine (enter_calls w0 _ g ok S1 vs vo vl1 vp1 _ b (i * 8) o (some i) outer HV.out HLO.out HB.out HBS.out (fun k hk => HK.out k (Nat.le_trans HKP.out.1 hk)) HME.out (HG.out.below HB.out) (by have := HQ.out.2.2.2.2.1; have := HN.out; omega) (by have := HQ.out.2.2.2.2.2.1; have := HN.out; omega) (by have := HQ.out.2.2.2.2.2.2.1; have := HQ.out.2.2.2.2.2.2.2.1; have := HN.out; omega)).mono ?_; rintro e w3 ⟨rfl, ⟨vl3, vp3, hv, hl⟩, hb, hk⟩; have HV3 := Aside0.mk hv; have HL3 := Aside0.mk hl; have HB3 := Aside0.mk hb; have HK3 := Aside0.mk (HKP.out.trans (hk.mono (fun k hk => hk.elim id (fun he => by rw [he]; exact HV.out.opn.1 b (by simp [Value.ownBlock]))))); clear hv hl hb hk; clear hc0 hc1 hc2 hc3 hc4 hc5 hc6 hc7 hc8 hc9 hc10 hc11 hc12 hc13 hc14 hc15 hcf; obtain ⟨hc0, hc1, hc2, hc3, hc4, hc5, hc6, hc7, hc8, hc9, hc10, hc11, hc12, hc13, hc14, hc15, hcf⟩ := sp_cells HV3.out.blk; obtain ⟨hx, hxf⟩ := HL3.out.cells HV3.out; have hx7 := hx 7 _ rfl; clear hx hxf))
        go_roundg (S.opn.length - (i + 1))
        case measure => have := HQ.out.1; omega
        case rel =>
          obtain ⟨q1, q2, q3, q4, q5, q6, q7, q8, q9⟩ := HQ.out
          obtain ⟨p1, p2, p3, p4, p5⟩ := HPA.out
          refine ⟨i + 1, _, _, _, _, rfl, by go_num, ⟨rfl, by omega, ?_, q4.trans HEQ.out, ?_, ?_, ?_, ?_, ?_⟩, HV3, HB3, HK3⟩
          · show ((S1.enter _ outer).1.opn.set i _).length = _
            rw [List.length_set, p5, q3]
          · show (S1.enter _ outer).1.L.length ≤ _
            omega
          · show (S1.enter _ outer).1.pieces.length ≤ _
            omega
          · show 0 ≤ (S1.enter _ outer).1.count
            omega
          · show (S1.enter _ outer).1.count ≤ _
            omega
          · intro p ho
            have ho' : p ∈ (S1.enter o outer).1.opn.set i { o with f2 := (S1.enter o outer).2 } := ho
            rw [p5] at ho'
            rcases List.mem_or_eq_of_mem_set ho' with h | rfl
            · exact q9 p h
            · exact HME.out
      · obtain rfl : i = S.opn.length := by have := HQ.out.2.1; omega
        have hend : S.begin_ = S1 := by have := HQ.out.2.2.2.1; rw [Nat.sub_self] at this; exact this
        have HE := Aside0.mk hend
        clear hend
        go_wp2
        go_end0
        exact ⟨rfl, by rw [HE.out]; exact ⟨_, _, HV.out⟩, HB.out, HKP.out⟩
end Go.Proofs.YtlfpjlpaiaonkaaDoor.Sp

/- Layer 13's splitter: item, a box that closes. -/
import Derived.Test.YtlfpjlpaiaonkaaDoorSpI
import Derived.Deep.RegionWith
import Derived.Outline
namespace Go.Proofs.YtlfpjlpaiaonkaaDoor.Sp
open Go.RowKit Go.Proofs.YtlfpjlpaiaonkaaDoorW.PrintWords Go.Proofs.YtlfpjlpaiaonkaaDoorW.PrintLast Go.Proofs.YtlfpjlpaiaonkaaDoorW.PrintMore Go.Proofs.YtlfpjlpaiaonkaaDoorH Go.Proofs.YtlfpjlpaiaonkaaDoor.P Go.Proofs.YtlfpjlpaiaonkaaDoor.Mp
attribute [local go_sem] max2_int min2_int max_two min_two max_three min_three max_four min_four
set_option linter.unusedVariables false
set_option linter.unusedSimpArgs false
set_option maxHeartbeats 4000000 in
set_option maxRecDepth 100000 in
theorem item_shut (w0 w : World) (g : Nat) (ok : Nat → Prop) (S : Sp) (vs vo vl vp vn : Value) (it : Itm) (item : Int) (hk2 : it.f0 = 2) (hV : SpV w0 w g ok S vs vo vl vp vn) (hB : Below w0.heap.size w0 w) (hok : ∀ k, w.heap.size ≤ k → ok k) (hl : S.L.length ≤ 10000000000) (hp : S.pieces.length = S.L.length)
    (hn : S.opn.length ≤ 10000000000) (hG : LaidW w0) (hpos : 0 < S.opn.length) (huo : ∀ o, o ∈ S.opn → u8 o.f1.f1 ∧ u8 o.f1.f2) :
    Calls Tryd.prog 23 #[.pointer (some ⟨g, 0, none⟩), .agg (itmC it), .int .i64 item] w fun e' w' => e' = .returned (.tuple #[]) ∧ (∃ vo' vl' vp' vn', SpV w0 w' g ok (S.shut item) vs vo' vl' vp' vn') ∧ Below w0.heap.size w0 w' ∧ Kp w w' g ok := by
  unfold itmC
  rw [hk2]
  go_enter Tryd.func23, Tryd.ntmps23
  obtain ⟨b, cap, rfl, hbb, _, _⟩ := Kd.R_form hV.opn hpos
  obtain ⟨m, hm⟩ : ∃ m, S.opn.length = m + 1 := ⟨S.opn.length - 1, by omega⟩
  go_upto_region 7 with (fail)
  obtain ⟨w1, hw1⟩ : ∃ w1, w1 = ((w.alloc (.cells #[.pointer (some ⟨g, 0, none⟩)] 61)).alloc (.cells #[.int .u8 2, .int .i64 it.f1, .bool it.f2, .int .i32 it.f3, .int .i64 it.f4] 47)).alloc (.cells #[.int .i64 item] 3) := ⟨_, rfl⟩
  rw [← hw1]
  have hBX : Boxes w w1 g ⟨2, it.f1, it.f2, it.f3, it.f4⟩ item := by rw [hw1]; exact boxes_mk w g ⟨2, it.f1, it.f2, it.f3, it.f4⟩ item
  clear hw1
  obtain ⟨o, hod⟩ : ∃ o, S.opn.getD m z98 = o := ⟨_, rfl⟩
  have hV1 := hV.okX hBX.below
  obtain ⟨c, hcl, hM, hc, hf⟩ := Kd.R_elem hV1.opn z98 (m : Int) (by omega) (by omega)
  rw [Int.toNat_natCast] at hM hc
  obtain rfl := k98_openM hM
  rw [hod] at hc
  have hx2 : w1.cell? ⟨b, m * 8 + 1 + 1, none⟩ = some (.int .u8 o.f1.f1) := hc 2 _ rfl
  have hx3 : w1.cell? ⟨b, m * 8 + 1 + 2, none⟩ = some (.int .u8 o.f1.f2) := hc 3 _ rfl
  have hou : o ∈ S.opn := by
    rw [← hod, List.getD_eq_getElem?_getD, List.getElem?_eq_getElem (by omega)]
    exact List.getElem_mem _
  have HUO := Aside0.mk (huo o hou)
  have HSH := Aside0.mk (show S.shut item = { S.put (ctlR o.f1.f2 o.f1.f1).2 item with opn := S.opn.take m, started := true } by unfold Sp.shut; rw [hm, Nat.add_sub_cancel, hod])
  rw [hm] at hV1
  have HV1 := Aside0.mk hV1
  have HB1 := Aside0.mk (below_step hB hBX.below)
  have cp := blk_cell hBX.ptr 0
  have cn := blk_cell hBX.num 0
  simp only [List.getElem?_toArray, List.getElem?_cons_zero] at cp cn
  obtain ⟨hc0, hc1, hc2, hc3, hc4, hc5, hc6, hc7, hc8, hc9, hc10, hc11, hc12, hc13, hc14, hc15, hcf⟩ := sp_cells HV1.out.blk
  have HBX := Aside0.mk hBX
  have HHB := Aside0.mk hB
  have HHV := Aside0.mk hV
  have HK := Aside0.mk hok
  have HL := Aside0.mk hl
  have HP := Aside0.mk hp
  have HN := Aside0.mk hn
  have HG := Aside0.mk hG
  have HM := Aside0.mk hm
  have HBB := Aside0.mk hbb
  have hw2 : ((m + 1 : Nat) : Int) - 1 = (m : Int) := by omega
  have hmb : m < 10000000000 := by omega
  obtain ⟨i0, hi0, -⟩ := Option.map_eq_some_iff.1 info_opn
  have hcut := cut_to (P := Tryd.prog) 63 98 .i64 Tryd.underlying63 hi0 (some ⟨b, 0, none⟩) (m + 1) cap (m : Int) (by omega) (by omega) (by have := (Kd.R_reads' hV.opn).2.1; omega)
  rw [Int.toNat_natCast] at hcut
  clear hBX hod hc hcl hM hf hou hV1 hV hB hok hl hp hn hG hm hbb hpos huo hi0
  go_wp2
  go_quiet ((go_at_call 14; exact ctl_quiet _ _ _ _ HUO.out.2 HUO.out.1 (HG.out.below HB1.out)))
  go_wp2_with (go_at_call 37; refine (put_calls w0 _ g (okX ok w w1) S vs vo vl vp _ _ (ctlR o.f1.f2 o.f1.f1).2 item (HV1.out.drewN nq) (pw_below_drewN HB1.out nq) (okX_fresh HK.out HBX.out.below.size) (ctl_dec _ _).2 (by have := HL.out; have := (ctlR_len o.f1.f2 o.f1.f1).2; omega) (by rw [HP.out]; have := HL.out; have := (ctlR_len o.f1.f2 o.f1.f1).2; omega)).mono ?_; rintro e w2 ⟨rfl, ⟨vl2, vp2, hv⟩, hb2, hk⟩; have HV2 := Aside0.mk hv; have HB2 := Aside0.mk hb2; have HK2 := Aside0.mk (((Kp.refl w1 g (okX ok w w1)).drewN nq).trans hk); clear hv hb2 hk hx2 hx3; have hp2 := Kp.made HK2.out HBX.out.ptr (Nat.le_refl _) (by have := HHV.out.lt; omega); clear cp cn; have cp := blk_cell hp2 0; simp only [List.getElem?_toArray, List.getElem?_cons_zero] at cp; clear hp2; clear hc0 hc1 hc2 hc3 hc4 hc5 hc6 hc7 hc8 hc9 hc10 hc11 hc12 hc13 hc14 hc15 hcf; obtain ⟨hc0, hc1, hc2, hc3, hc4, hc5, hc6, hc7, hc8, hc9, hc10, hc11, hc12, hc13, hc14, hc15, hcf⟩ := sp_cells HV2.out.blk)
  go_region
  go_wp2
  go_end0
  have h3 := HV2.out.drew.set_ 13 (.slice (some ⟨b, 0, none⟩) m cap) (S' := { S.put (ctlR o.f1.f2 o.f1.f1).2 item with opn := S.opn.take m }) (vo' := vo) (vl' := vl2) (vp' := vp2) (vn' := .slice (some ⟨b, 0, none⟩) m cap) rfl rfl HV2.out.drew.out HV2.out.drew.L HV2.out.drew.pieces (Kd.R_take HV2.out.drew.opn (by show m ≤ S.opn.length; have := HM.out; omega))
  have h4 := h3.set0 15 (.bool true) (S' := { S.put (ctlR o.f1.f2 o.f1.f1).2 item with opn := S.opn.take m, started := true }) rfl rfl rfl rfl rfl rfl
  refine ⟨rfl, ⟨_, _, _, _, by rw [HSH.out]; exact h4.mono (fun k hk => hk.1)⟩, ?_, ?_⟩
  · exact ((below_drew1 HB2.out).setCell (p := ⟨g, 13, none⟩) (by exact HHV.out.new) _).setCell (p := ⟨g, 15, none⟩) (by exact HHV.out.new) _
  · exact Kp.ofX (((HK2.out.drew).set_ _ _).set_ _ _) HBX.out.below
end Go.Proofs.YtlfpjlpaiaonkaaDoor.Sp

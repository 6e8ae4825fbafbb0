/- Layer 13's splitter: char. -/
import Derived.Test.YtlfpjlpaiaonkaaDoorSpC
import Derived.Deep.RegionLaw
import Derived.Outline
namespace Go.Proofs.YtlfpjlpaiaonkaaDoor.Sp
open Go.RowKit Go.Proofs.YtlfpjlpaiaonkaaDoorW.PrintWords Go.Proofs.YtlfpjlpaiaonkaaDoorW.PrintLast Go.Proofs.YtlfpjlpaiaonkaaDoorW.PrintMore Go.Proofs.YtlfpjlpaiaonkaaDoorH Go.Proofs.YtlfpjlpaiaonkaaDoor.P Go.Proofs.YtlfpjlpaiaonkaaDoor.Mp
attribute [local go_sem] max2_int min2_int max_two min_two max_three min_three max_four min_four
set_option linter.unusedVariables false
set_option linter.unusedSimpArgs false
/-- A character is put. -/
def Sp.add (S : Sp) (r item : Int) : Sp := { S with L := S.L ++ [⟨r, item, false⟩], pieces := S.pieces ++ [S.inner], started := true }
def Sp.char (S : Sp) (r item : Int) : Sp :=
  if clsOf r = 11 then
    if S.hard = true ∧ 0 < S.inner then S.add 65533 item else (S.add r item).end_.begin_
  else S.add r item
set_option maxHeartbeats 4000000 in
set_option maxRecDepth 100000 in
theorem char_calls (w0 w : World) (g : Nat) (ok : Nat → Prop) (S : Sp) (vs vo vl vp vn : Value) (r item : Int) (hV : SpV w0 w g ok S vs vo vl vp vn) (hB : Below w0.heap.size w0 w) (hok : ∀ k, w.heap.size ≤ k → ok k) (hl : S.L.length ≤ 100000000000) (hp : S.pieces.length = S.L.length) (ho : S.out.length ≤ 100000000000)
    (hu : u8 S.block.f1) (huo : ∀ o, o ∈ S.opn → u8 o.f1.f1 ∧ u8 o.f1.f2) (hG : LaidW w0) (hn : S.opn.length ≤ 10000000000) (hc : 0 ≤ S.count ∧ S.count ≤ 10000000000) :
    Calls Tryd.prog 40 #[.pointer (some ⟨g, 0, none⟩), .int .i32 r, .int .i64 item] w fun e' w' => e' = .returned (.tuple #[]) ∧ (∃ vo' vl' vp', SpV w0 w' g ok (S.char r item) vs vo' vl' vp' vn) ∧ Below w0.heap.size w0 w' ∧ Kp w w' g ok := by
  obtain ⟨hc0, hc1, hc2, hc3, hc4, hc5, hc6, hc7, hc8, hc9, hc10, hc11, hc12, hc13, hc14, hc15, hcf⟩ := sp_cells hV.blk
  have HV := Aside0.mk hV
  have HB := Aside0.mk hB
  have HK := Aside0.mk hok
  have HL := Aside0.mk hl
  have HP := Aside0.mk hp
  have HO := Aside0.mk ho
  have HU := Aside0.mk hu
  have HUO := Aside0.mk huo
  have HG := Aside0.mk hG
  have HN := Aside0.mk hn
  have HCT := Aside0.mk hc
  obtain ⟨c, hcd⟩ : ∃ c, clsOf r = c := ⟨_, rfl⟩
  have HCD := Aside0.mk (class_f _ _ hcd)
  clear hV hB hok hl hp ho hu huo hG hn hc
  by_cases h11 : c = 11
  · subst h11
    cases hh : S.hard
    · have HE := Aside0.mk (show S.char r item = (S.add r item).end_.begin_ by unfold Sp.char; rw [if_pos hcd, hh]; simp)
      clear hcd
      go_enter Tryd.func40, Tryd.ntmps40
      go_wp2_with (first
        | (go_at_call 39; refine (inner_calls w0 _ g ok S vs vo vl vp _ HV.out HN.out).mono ?_; rintro e w1 ⟨rfl, rfl⟩)
        | (go_at_call 51; refine (props_Class.calls r _ _ HCD.out).mono ?_; rintro e w2 ⟨rfl, hb⟩; have HV2 := Aside0.mk (HV.out.below hb); have HB2 := Aside0.mk (below_step HB.out hb); have HK2 := Aside0.mk ((Kp.refl w g ok).below hb); clear hb; clear hc0 hc1 hc2 hc3 hc4 hc5 hc6 hc7 hc8 hc9 hc10 hc11 hc12 hc13 hc14 hc15 hcf; obtain ⟨hc0, hc1, hc2, hc3, hc4, hc5, hc6, hc7, hc8, hc9, hc10, hc11, hc12, hc13, hc14, hc15, hcf⟩ := sp_cells HV2.out.blk)
        | ((with_reducible refine gate_builtin (b := .append) (xs := #[.tmp 29, .tmp 33]) rfl ?_); at_builtin; refine app_L HV2.out rfl (.tmp 29) (.tmp 33) 37 rfl Tryd.underlying37 (⟨r, item, false⟩ : Pos) rfl rfl (by first | rfl | simp [World.setCell]) HB2.out ?af ?al ?_; (case af => exact fun k hk => HK.out k (Nat.le_trans HK2.out.1 hk)); (case al => exact Nat.le_trans HL.out (by decide)); intro A1 c1 w3 hb hv hbe hkp; clear hc0 hc1 hc2 hc3 hc4 hc5 hc6 hc7 hc8 hc9 hc10 hc11 hc12 hc13 hc14 hc15 hcf; obtain ⟨hc0, hc1, hc2, hc3, hc4, hc5, hc6, hc7, hc8, hc9, hc10, hc11, hc12, hc13, hc14, hc15, hcf⟩ := sp_cells hb; have HV3 := Aside0.mk hv; have HB3 := Aside0.mk hbe; have HK3 := Aside0.mk (HK2.out.trans hkp); clear hb hv hbe hkp)
        | ((with_reducible refine gate_builtin (b := .append) (xs := #[.tmp 42, .tmp 44]) rfl ?_); at_builtin; refine app_pieces HV3.out rfl (.tmp 42) (.tmp 44) 62 rfl Tryd.underlying62 S.inner rfl rfl (by first | rfl | simp [World.setCell]) HB3.out ?af ?al ?_; (case af => exact fun k hk => HK.out k (Nat.le_trans HK3.out.1 hk)); (case al => show S.pieces.length ≤ _; rw [HP.out]; exact Nat.le_trans HL.out (by decide)); intro A4 c4 w4 hb hv hbe hkp; clear hc0 hc1 hc2 hc3 hc4 hc5 hc6 hc7 hc8 hc9 hc10 hc11 hc12 hc13 hc14 hc15 hcf; obtain ⟨hc0, hc1, hc2, hc3, hc4, hc5, hc6, hc7, hc8, hc9, hc10, hc11, hc12, hc13, hc14, hc15, hcf⟩ := sp_cells hb; have HV4 := Aside0.mk (hv.set0 15 (.bool true) (S' := { S with L := S.L ++ [⟨r, item, false⟩], pieces := S.pieces ++ [S.inner], started := true }) rfl rfl rfl rfl rfl rfl); have HB4 := Aside0.mk (hbe.setCell (p := ⟨g, 15, none⟩) (by exact HV.out.new) (.bool true)); have HK4 := Aside0.mk ((HK3.out.trans hkp).set_ 15 (.bool true)); clear hb hv hbe hkp)
        | (go_at_call 25; refine (end_calls w0 _ g ok _ vs _ _ _ _ HV4.out HB4.out (fun k hk => HK.out k (Nat.le_trans HK4.out.1 hk)) (by show (S.L ++ _).length ≤ _; have := HL.out; simp; omega) (by show (S.pieces ++ _).length = (S.L ++ _).length; have := HP.out; simp; omega) (Nat.le_trans HO.out (by decide))).mono ?_; rintro e w5 ⟨rfl, ⟨vo5, hv⟩, hb, hk⟩; have HV5 := Aside0.mk hv; have HB5 := Aside0.mk hb; have HK5 := Aside0.mk (HK4.out.trans hk); clear hv hb hk)
        | (go_at_call 22; refine (begin_calls w0 _ g ok _ vs _ _ _ _ HV5.out HB5.out (fun k hk => HK.out k (Nat.le_trans HK5.out.1 hk)) (by rw [end_block]; exact HU.out) (by rw [end_opn]; exact HUO.out) HG.out (by rw [end_opn]; exact HN.out) (by rw [end_count]; exact HCT.out)).mono ?_; rintro e w6 ⟨rfl, ⟨vl6, vp6, hv⟩, hb, hk⟩; have HV6 := Aside0.mk hv; have HB6 := Aside0.mk hb; have HK6 := Aside0.mk (HK5.out.trans hk); clear hv hb hk))
      go_end0
      exact ⟨rfl, ⟨_, _, _, by rw [HE.out]; exact HV6.out⟩, HB6.out, HK6.out⟩

    · by_cases hi : 0 < S.inner
      · have HE := Aside0.mk (show S.char r item = S.add 65533 item by unfold Sp.char; rw [if_pos hcd, if_pos ⟨hh, hi⟩])
        clear hcd
        go_enter Tryd.func40, Tryd.ntmps40
        go_wp2_with (first
          | (go_at_call 39; refine (inner_calls w0 _ g ok S vs vo vl vp _ HV.out HN.out).mono ?_; rintro e w1 ⟨rfl, rfl⟩)
          | (go_at_call 51; refine (props_Class.calls r _ _ HCD.out).mono ?_; rintro e w2 ⟨rfl, hb⟩; have HV2 := Aside0.mk (HV.out.below hb); have HB2 := Aside0.mk (below_step HB.out hb); have HK2 := Aside0.mk ((Kp.refl w g ok).below hb); clear hb; clear hc0 hc1 hc2 hc3 hc4 hc5 hc6 hc7 hc8 hc9 hc10 hc11 hc12 hc13 hc14 hc15 hcf; obtain ⟨hc0, hc1, hc2, hc3, hc4, hc5, hc6, hc7, hc8, hc9, hc10, hc11, hc12, hc13, hc14, hc15, hcf⟩ := sp_cells HV2.out.blk)
          | ((with_reducible refine gate_builtin (b := .append) (xs := #[.tmp 29, .tmp 33]) rfl ?_); at_builtin; refine app_L HV2.out rfl (.tmp 29) (.tmp 33) 37 rfl Tryd.underlying37 (⟨65533, item, false⟩ : Pos) rfl rfl (by first | rfl | simp [World.setCell]) HB2.out ?af ?al ?_; (case af => exact fun k hk => HK.out k (Nat.le_trans HK2.out.1 hk)); (case al => exact Nat.le_trans HL.out (by decide)); intro A1 c1 w3 hb hv hbe hkp; clear hc0 hc1 hc2 hc3 hc4 hc5 hc6 hc7 hc8 hc9 hc10 hc11 hc12 hc13 hc14 hc15 hcf; obtain ⟨hc0, hc1, hc2, hc3, hc4, hc5, hc6, hc7, hc8, hc9, hc10, hc11, hc12, hc13, hc14, hc15, hcf⟩ := sp_cells hb; have HV3 := Aside0.mk hv; have HB3 := Aside0.mk hbe; have HK3 := Aside0.mk (HK2.out.trans hkp); clear hb hv hbe hkp)
          | ((with_reducible refine gate_builtin (b := .append) (xs := #[.tmp 42, .tmp 44]) rfl ?_); at_builtin; refine app_pieces HV3.out rfl (.tmp 42) (.tmp 44) 62 rfl Tryd.underlying62 S.inner rfl rfl (by first | rfl | simp [World.setCell]) HB3.out ?af ?al ?_; (case af => exact fun k hk => HK.out k (Nat.le_trans HK3.out.1 hk)); (case al => show S.pieces.length ≤ _; rw [HP.out]; exact Nat.le_trans HL.out (by decide)); intro A4 c4 w4 hb hv hbe hkp; clear hc0 hc1 hc2 hc3 hc4 hc5 hc6 hc7 hc8 hc9 hc10 hc11 hc12 hc13 hc14 hc15 hcf; obtain ⟨hc0, hc1, hc2, hc3, hc4, hc5, hc6, hc7, hc8, hc9, hc10, hc11, hc12, hc13, hc14, hc15, hcf⟩ := sp_cells hb; have HV4 := Aside0.mk (hv.set0 15 (.bool true) (S' := { S with L := S.L ++ [⟨65533, item, false⟩], pieces := S.pieces ++ [S.inner], started := true }) rfl rfl rfl rfl rfl rfl); have HB4 := Aside0.mk (hbe.setCell (p := ⟨g, 15, none⟩) (by exact HV.out.new) (.bool true)); have HK4 := Aside0.mk ((HK3.out.trans hkp).set_ 15 (.bool true)); clear hb hv hbe hkp))
        go_end0
        exact ⟨rfl, ⟨_, _, _, by rw [HE.out]; exact HV4.out⟩, HB4.out, HK4.out⟩

      · have HE := Aside0.mk (show S.char r item = (S.add r item).end_.begin_ by unfold Sp.char; rw [if_pos hcd, if_neg (fun h => hi h.2)])
        replace hi : S.inner ≤ 0 := by omega
        clear hcd
        go_enter Tryd.func40, Tryd.ntmps40
        go_wp2_with (first
          | (go_at_call 39; refine (inner_calls w0 _ g ok S vs vo vl vp _ HV.out HN.out).mono ?_; rintro e w1 ⟨rfl, rfl⟩)
          | (go_at_call 51; refine (props_Class.calls r _ _ HCD.out).mono ?_; rintro e w2 ⟨rfl, hb⟩; have HV2 := Aside0.mk (HV.out.below hb); have HB2 := Aside0.mk (below_step HB.out hb); have HK2 := Aside0.mk ((Kp.refl w g ok).below hb); clear hb; clear hc0 hc1 hc2 hc3 hc4 hc5 hc6 hc7 hc8 hc9 hc10 hc11 hc12 hc13 hc14 hc15 hcf; obtain ⟨hc0, hc1, hc2, hc3, hc4, hc5, hc6, hc7, hc8, hc9, hc10, hc11, hc12, hc13, hc14, hc15, hcf⟩ := sp_cells HV2.out.blk)
          | ((with_reducible refine gate_builtin (b := .append) (xs := #[.tmp 29, .tmp 33]) rfl ?_); at_builtin; refine app_L HV2.out rfl (.tmp 29) (.tmp 33) 37 rfl Tryd.underlying37 (⟨r, item, false⟩ : Pos) rfl rfl (by first | rfl | simp [World.setCell]) HB2.out ?af ?al ?_; (case af => exact fun k hk => HK.out k (Nat.le_trans HK2.out.1 hk)); (case al => exact Nat.le_trans HL.out (by decide)); intro A1 c1 w3 hb hv hbe hkp; clear hc0 hc1 hc2 hc3 hc4 hc5 hc6 hc7 hc8 hc9 hc10 hc11 hc12 hc13 hc14 hc15 hcf; obtain ⟨hc0, hc1, hc2, hc3, hc4, hc5, hc6, hc7, hc8, hc9, hc10, hc11, hc12, hc13, hc14, hc15, hcf⟩ := sp_cells hb; have HV3 := Aside0.mk hv; have HB3 := Aside0.mk hbe; have HK3 := Aside0.mk (HK2.out.trans hkp); clear hb hv hbe hkp)
          | ((with_reducible refine gate_builtin (b := .append) (xs := #[.tmp 42, .tmp 44]) rfl ?_); at_builtin; refine app_pieces HV3.out rfl (.tmp 42) (.tmp 44) 62 rfl Tryd.underlying62 S.inner rfl rfl (by first | rfl | simp [World.setCell]) HB3.out ?af ?al ?_; (case af => exact fun k hk => HK.out k (Nat.le_trans HK3.out.1 hk)); (case al => show S.pieces.length ≤ _; rw [HP.out]; exact Nat.le_trans HL.out (by decide)); intro A4 c4 w4 hb hv hbe hkp; clear hc0 hc1 hc2 hc3 hc4 hc5 hc6 hc7 hc8 hc9 hc10 hc11 hc12 hc13 hc14 hc15 hcf; obtain ⟨hc0, hc1, hc2, hc3, hc4, hc5, hc6, hc7, hc8, hc9, hc10, hc11, hc12, hc13, hc14, hc15, hcf⟩ := sp_cells hb; have HV4 := Aside0.mk (hv.set0 15 (.bool true) (S' := { S with L := S.L ++ [⟨r, item, false⟩], pieces := S.pieces ++ [S.inner], started := true }) rfl rfl rfl rfl rfl rfl); have HB4 := Aside0.mk (hbe.setCell (p := ⟨g, 15, none⟩) (by exact HV.out.new) (.bool true)); have HK4 := Aside0.mk ((HK3.out.trans hkp).set_ 15 (.bool true)); clear hb hv hbe hkp)
          | (go_at_call 25; refine (end_calls w0 _ g ok _ vs _ _ _ _ HV4.out HB4.out (fun k hk => HK.out k (Nat.le_trans HK4.out.1 hk)) (by show (S.L ++ _).length ≤ _; have := HL.out; simp; omega) (by show (S.pieces ++ _).length = (S.L ++ _).length; have := HP.out; simp; omega) (Nat.le_trans HO.out (by decide))).mono ?_; rintro e w5 ⟨rfl, ⟨vo5, hv⟩, hb, hk⟩; have HV5 := Aside0.mk hv; have HB5 := Aside0.mk hb; have HK5 := Aside0.mk (HK4.out.trans hk); clear hv hb hk)
          | (go_at_call 22; refine (begin_calls w0 _ g ok _ vs _ _ _ _ HV5.out HB5.out (fun k hk => HK.out k (Nat.le_trans HK5.out.1 hk)) (by rw [end_block]; exact HU.out) (by rw [end_opn]; exact HUO.out) HG.out (by rw [end_opn]; exact HN.out) (by rw [end_count]; exact HCT.out)).mono ?_; rintro e w6 ⟨rfl, ⟨vl6, vp6, hv⟩, hb, hk⟩; have HV6 := Aside0.mk hv; have HB6 := Aside0.mk hb; have HK6 := Aside0.mk (HK5.out.trans hk); clear hv hb hk))
        go_end0
        exact ⟨rfl, ⟨_, _, _, by rw [HE.out]; exact HV6.out⟩, HB6.out, HK6.out⟩

  · have HE := Aside0.mk (show S.char r item = S.add r item by unfold Sp.char; rw [hcd, if_neg h11])
    have e11 : (c == 11) = false := by simpa using h11
    clear hcd h11
    go_enter Tryd.func40, Tryd.ntmps40
    go_wp2_with (first
      | (go_at_call 39; refine (inner_calls w0 _ g ok S vs vo vl vp _ HV.out HN.out).mono ?_; rintro e w1 ⟨rfl, rfl⟩)
      | (go_at_call 51; refine (props_Class.calls r _ _ HCD.out).mono ?_; rintro e w2 ⟨rfl, hb⟩; have HV2 := Aside0.mk (HV.out.below hb); have HB2 := Aside0.mk (below_step HB.out hb); have HK2 := Aside0.mk ((Kp.refl w g ok).below hb); clear hb; clear hc0 hc1 hc2 hc3 hc4 hc5 hc6 hc7 hc8 hc9 hc10 hc11 hc12 hc13 hc14 hc15 hcf; obtain ⟨hc0, hc1, hc2, hc3, hc4, hc5, hc6, hc7, hc8, hc9, hc10, hc11, hc12, hc13, hc14, hc15, hcf⟩ := sp_cells HV2.out.blk)
      | ((with_reducible refine gate_builtin (b := .append) (xs := #[.tmp 29, .tmp 33]) rfl ?_); at_builtin; refine app_L HV2.out rfl (.tmp 29) (.tmp 33) 37 rfl Tryd.underlying37 (⟨r, item, false⟩ : Pos) rfl rfl (by first | rfl | simp [World.setCell]) HB2.out ?af ?al ?_; (case af => exact fun k hk => HK.out k (Nat.le_trans HK2.out.1 hk)); (case al => exact Nat.le_trans HL.out (by decide)); intro A1 c1 w3 hb hv hbe hkp; clear hc0 hc1 hc2 hc3 hc4 hc5 hc6 hc7 hc8 hc9 hc10 hc11 hc12 hc13 hc14 hc15 hcf; obtain ⟨hc0, hc1, hc2, hc3, hc4, hc5, hc6, hc7, hc8, hc9, hc10, hc11, hc12, hc13, hc14, hc15, hcf⟩ := sp_cells hb; have HV3 := Aside0.mk hv; have HB3 := Aside0.mk hbe; have HK3 := Aside0.mk (HK2.out.trans hkp); clear hb hv hbe hkp)
      | ((with_reducible refine gate_builtin (b := .append) (xs := #[.tmp 42, .tmp 44]) rfl ?_); at_builtin; refine app_pieces HV3.out rfl (.tmp 42) (.tmp 44) 62 rfl Tryd.underlying62 S.inner rfl rfl (by first | rfl | simp [World.setCell]) HB3.out ?af ?al ?_; (case af => exact fun k hk => HK.out k (Nat.le_trans HK3.out.1 hk)); (case al => show S.pieces.length ≤ _; rw [HP.out]; exact Nat.le_trans HL.out (by decide)); intro A4 c4 w4 hb hv hbe hkp; clear hc0 hc1 hc2 hc3 hc4 hc5 hc6 hc7 hc8 hc9 hc10 hc11 hc12 hc13 hc14 hc15 hcf; obtain ⟨hc0, hc1, hc2, hc3, hc4, hc5, hc6, hc7, hc8, hc9, hc10, hc11, hc12, hc13, hc14, hc15, hcf⟩ := sp_cells hb; have HV4 := Aside0.mk (hv.set0 15 (.bool true) (S' := { S with L := S.L ++ [⟨r, item, false⟩], pieces := S.pieces ++ [S.inner], started := true }) rfl rfl rfl rfl rfl rfl); have HB4 := Aside0.mk (hbe.setCell (p := ⟨g, 15, none⟩) (by exact HV.out.new) (.bool true)); have HK4 := Aside0.mk ((HK3.out.trans hkp).set_ 15 (.bool true)); clear hb hv hbe hkp))
    go_end0
    exact ⟨rfl, ⟨_, _, _, by rw [HE.out]; exact HV4.out⟩, HB4.out, HK4.out⟩
end Go.Proofs.YtlfpjlpaiaonkaaDoor.Sp

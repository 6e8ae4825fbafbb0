/- Layer 13's splitter: put. -/
import Derived.Test.YtlfpjlpaiaonkaaDoorSp
import Derived.Outline
namespace Go.Proofs.YtlfpjlpaiaonkaaDoor.Sp
open Go.RowKit Go.Proofs.YtlfpjlpaiaonkaaDoorW.PrintWords Go.Proofs.YtlfpjlpaiaonkaaDoorW.PrintLast Go.Proofs.YtlfpjlpaiaonkaaDoorW.PrintMore Go.Proofs.YtlfpjlpaiaonkaaDoorH Go.Proofs.YtlfpjlpaiaonkaaDoor.P
set_option linter.unusedVariables false
set_option linter.unusedSimpArgs false
set_option maxHeartbeats 4000000 in
set_option maxRecDepth 100000 in
theorem put_calls (w0 w : World) (g : Nat) (ok : Nat → Prop) (S : Sp) (vs vo vl vp vn : Value) (s : ByteArray) (rs : List Int) (item : Int) (hI : SpV w0 w g ok S vs vo vl vp vn) (hB : Below w0.heap.size w0 w) (hok : ∀ k, w.heap.size ≤ k → ok k) (hd : Dec s 0 rs) (hl : S.L.length + rs.length ≤ 1000000000000) (hp : S.pieces.length + rs.length ≤ 1000000000000) :
    Calls Tryd.prog 37 #[.pointer (some ⟨g, 0, none⟩), .string s, .int .i64 item] w fun e w' => e = .returned (.tuple #[]) ∧ (∃ vl' vp', SpV w0 w' g ok (S.put rs item) vs vo vl' vp' vn) ∧ Below w0.heap.size w0 w' ∧ Kp w w' g ok := by
  have HI := Aside0.mk hI
  have HB := Aside0.mk hB
  have HW0 := Aside0.mk hB.size
  have HK := Aside0.mk hok
  have HD := Aside0.mk hd
  have HL := Aside0.mk hl
  have HP := Aside0.mk hp
  clear hI hB hok hd hl hp
  go_enter Tryd.func37, Tryd.ntmps37
  go_wp2
  go_loopg [7] rs.length (fun gk v7 wr => ∃ (pos : Nat) (qs : List Int) (S1 : Sp), Aside0 (wr.heap[w.heap.size]? = some (.stringIter s pos)) ∧ Aside0 (Dec s pos qs ∧ gk = qs.length ∧ S1.put qs item = S.put rs item ∧ S1.L.length + qs.length ≤ 1000000000000 ∧ S1.pieces.length + qs.length ≤ 1000000000000) ∧ Aside0 (∃ vl vp, SpV w0 wr g ok S1 vs vo vl vp vn) ∧ Aside0 (Below w0.heap.size w0 wr) ∧ Aside0 (Kp w wr g ok))
  case atStart =>
    have h := HI.out
    exact ⟨0, rs, S, ⟨World.iter_heap w s 0⟩, ⟨HD.out, rfl, rfl, HL.out, HP.out⟩, ⟨vl, vp, h.alloc _⟩, ⟨below_alloc HB.out _⟩, ⟨(Kp.refl w g ok).alloc _⟩⟩
  case round =>
    clear HI HB HD HL HP
    obtain ⟨pos, qs, S1, HIT, HQ, HI, HB, HKP⟩ := hrel
    obtain ⟨vl, vp, hV⟩ := HI.out
    have HV := Aside0.mk hV
    clear hV HI
    cases qs with
    | nil =>
      have hnx : ∀ ty, (Instr.next (.pointer (some ⟨w.heap.size, 0, none⟩)) true ty).run Tryd.prog wr = _ := fun ty => Lib.run_next_end_at wr w.heap.size s pos ty HIT.out HQ.out.1
      go_wp2
      go_end0
      exact ⟨rfl, by rw [← HQ.out.2.2.1, Sp.put_nil]; exact ⟨vl, vp, HV.out⟩, HB.out, HKP.out⟩
    | cons r qs =>
      obtain ⟨W, hW⟩ : ∃ W, W = wr.iterAt w.heap.size s (pos + (Utf8.decode s pos).2) := ⟨_, rfl⟩
      have hnx : ∀ ty, (Instr.next (.pointer (some ⟨w.heap.size, 0, none⟩)) true ty).run Tryd.prog wr = .ok (.tuple #[.bool true, .int .i64 pos, .int .i32 r]) W := fun ty => by
        rw [hW, ← HQ.out.1.2.1]; exact Lib.run_next_any_at wr w.heap.size s pos ty HIT.out HQ.out.1.1
      have HV1 := Aside0.mk (HV.out.iterAt HIT.out (pos + (Utf8.decode s pos).2))
      have HB1 := Aside0.mk (Lib.below_iterAt HB.out (k := w.heap.size) HW0.out s (pos + (Utf8.decode s pos).2))
      have HKP1 := Aside0.mk (HKP.out.iterAt (Nat.le_refl _) s (pos + (Utf8.decode s pos).2))
      have HIT1 := Aside0.mk (Lib.iterAt_heap wr w.heap.size s pos (pos + (Utf8.decode s pos).2) HIT.out)
      rw [← hW] at HV1 HB1 HKP1 HIT1
      clear hW HV HB HKP HIT
      obtain ⟨hc0, hc1, hc2, hc3, hc4, hc5, hc6, hc7, hc8, hc9, hc10, hc11, hc12, hc13, hc14, hc15, hcf⟩ := sp_cells HV1.out.blk
      go_wp2_with (first
        | ((with_reducible refine gate_builtin (b := .append) (xs := #[.tmp 18, .tmp 22]) rfl ?_); at_builtin; refine app_L HV1.out rfl (.tmp 18) (.tmp 22) 37 rfl Tryd.underlying37 (⟨r, item, true⟩ : Pos) rfl rfl (by first | rfl | simp [World.setCell]) HB1.out ?af ?al ?_; (case af => exact fun k hk => HK.out k (Nat.le_trans HKP1.out.1 hk)); (case al => have := HQ.out.2.2.2.1; simp only [List.length_cons] at this; omega); intro A1 c1 w1 hb hv hbe hkp; clear hc0 hc1 hc2 hc3 hc4 hc5 hc6 hc7 hc8 hc9 hc10 hc11 hc12 hc13 hc14 hc15 hcf; obtain ⟨hc0, hc1, hc2, hc3, hc4, hc5, hc6, hc7, hc8, hc9, hc10, hc11, hc12, hc13, hc14, hc15, hcf⟩ := sp_cells hb; have HV2 := Aside0.mk hv; have HB2 := Aside0.mk hbe; have HKP2 := Aside0.mk hkp; clear hb hv hbe hkp)
        | ((with_reducible refine gate_builtin (b := .append) (xs := #[.tmp 31, .tmp 32]) rfl ?_); at_builtin; refine app_pieces HV2.out rfl (.tmp 31) (.tmp 32) 62 rfl Tryd.underlying62 0 rfl rfl (by first | rfl | simp [World.setCell]) HB2.out ?af ?al ?_; (case af => exact fun k hk => HK.out k (Nat.le_trans (Nat.le_trans HKP1.out.1 HKP2.out.1) hk)); (case al => have h_ := HQ.out.2.2.2.2; simp only [List.length_cons] at h_; show S1.pieces.length ≤ _; omega); intro A3 c3 w3 hb hv hbe hkp; clear hc0 hc1 hc2 hc3 hc4 hc5 hc6 hc7 hc8 hc9 hc10 hc11 hc12 hc13 hc14 hc15 hcf; obtain ⟨hc0, hc1, hc2, hc3, hc4, hc5, hc6, hc7, hc8, hc9, hc10, hc11, hc12, hc13, hc14, hc15, hcf⟩ := sp_cells hb; have HV3 := Aside0.mk hv; have HB3 := Aside0.mk hbe; have HKP3 := Aside0.mk (HKP2.out.trans hkp); clear hb hv hbe hkp))
      have HD := Aside0.mk HQ.out.1.2.2
      have HE := Aside0.mk HQ.out.2
      have hlt : w.heap.size ≠ g := by
        rintro rfl
        have h1 := HIT1.out
        rw [HV1.out.blk] at h1
        cases h1
      have HIT3 := Aside0.mk (HKP3.out.iter HIT1.out hlt)
      go_roundg qs.length
      case measure => have := HE.out.1; simp only [List.length_cons] at this; omega
      case rel =>
        obtain ⟨e1, e2, e3, e4⟩ := HE.out
        rw [Sp.put_cons] at e2
        simp only [List.length_cons] at e3 e4
        exact ⟨_, qs, _, ⟨HIT3.out⟩, ⟨HD.out, rfl, e2, by simp; omega, by simp; omega⟩, ⟨_, _, HV3.out⟩, ⟨HB3.out⟩, ⟨HKP1.out.trans HKP3.out⟩⟩
end Go.Proofs.YtlfpjlpaiaonkaaDoor.Sp

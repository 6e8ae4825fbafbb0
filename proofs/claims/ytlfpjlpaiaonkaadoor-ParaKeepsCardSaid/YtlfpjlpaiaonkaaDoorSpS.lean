/- Layer 13: Split. -/
import Derived.Test.YtlfpjlpaiaonkaaDoorSpR
import Derived.Deep.RegionWith
import Derived.Outline
namespace Go.Proofs.YtlfpjlpaiaonkaaDoor.Sp
open Go.RowKit Go.Proofs.YtlfpjlpaiaonkaaDoorW.PrintWords Go.Proofs.YtlfpjlpaiaonkaaDoorW.PrintLast Go.Proofs.YtlfpjlpaiaonkaaDoorW.PrintMore Go.Proofs.YtlfpjlpaiaonkaaDoorH Go.Proofs.YtlfpjlpaiaonkaaDoor.P Go.Proofs.YtlfpjlpaiaonkaaDoor.Mp
set_option linter.unusedVariables false
set_option linter.unusedSimpArgs false
def Sp.start (st : List Sty) (b : Sty) (hard : Bool) : Sp := ⟨st, b, hard, [], 0, [], 0, [], [], 0, false⟩
def runI : List Itm → Int → Sp → Sp
  | [], _, S => S
  | x :: xs, i, S => runI xs (i + 1) (S.item x i)
def Sp.fin (S : Sp) : Sp := if S.started = true ∨ S.out.length = 0 then S.close.end_ else S
def splitS (block : Int) (items : List Itm) (st : List Sty) (hard : Bool) : Sp := (runI items 0 (Sp.start st (st.getD block.toNat z52) hard).begin_).fin
def tooLong (out : List Par) : Bool := out.any fun p => decide (65536 < p.f1.length)
def split (block : Int) (items : List Itm) (st : List Sty) (hard : Bool) : List Par × Int :=
  if rightB block items st = false then ([], 2)
  else if tooLong (splitS block items st hard).out = true then ([], 3) else ((splitS block items st hard).out, 0)
theorem runI_step (items : List Itm) (i : Nat) (S : Sp) (h : i < items.length) (x : Itm) (hx : items.getD i z47 = x) : runI (items.drop i) (i : Int) S = runI (items.drop (i + 1)) ((i + 1 : Nat) : Int) (S.item x i) := by
  have : items[i] = x := by rw [← hx, List.getD_eq_getElem?_getD, List.getElem?_eq_getElem h]; rfl
  rw [List.drop_eq_getElem_cons h, this]
  rfl
theorem runR_ok (n : Int) (items : List Itm) (i : Nat) (op : List Int) (h : i < items.length) (x : Itm) (hx : items.getD i z47 = x) (ht : runR n (items.drop i) op = true) :
    (0 ≤ x.f1 ∧ x.f1 < n ∧ 1 ≤ x.f0 ∧ x.f0 ≤ 4) ∧ (x.f0 = 2 → 0 < op.length) ∧ ∃ op', runR n (items.drop (i + 1)) op' = true ∧ op'.length = (if x.f0 = 1 then op.length + 1 else if x.f0 = 2 then op.length - 1 else op.length) := by
  rw [runR_step n items i op h x hx] at ht
  split at ht
  · cases ht
  · rename_i hk
    refine ⟨by omega, ?_⟩
    split at ht
    · rename_i h1
      exact ⟨fun h2 => by omega, _, ht, by rw [if_pos h1]; simp⟩
    · rename_i h1
      split at ht
      · rename_i h2
        split at ht
        · rename_i h3
          exact ⟨fun _ => h3.1, _, ht, by rw [if_neg h1, if_pos h2, List.length_take]; omega⟩
        · cases ht
      · rename_i h2
        exact ⟨fun h => absurd h h2, _, ht, by rw [if_neg h1, if_neg h2]⟩
theorem item_len (S : Sp) (x : Itm) (i : Int) : (S.item x i).opn.length = (if x.f0 = 1 then S.opn.length + 1 else if x.f0 = 2 then S.opn.length - 1 else S.opn.length) := by
  unfold Sp.item
  split
  · simp [Sp.open_]
  · split
    · simp [Sp.shut]
    · split
      · unfold Sp.char
        split
        · split
          · rfl
          · rw [(begin_parts _).1.len, end_opn]
            rfl
        · rfl
      · unfold Sp.brkAll
        rw [(begin_parts _).1.len, end_opn]
        show (S.puts S.opn.reverse i).close.opn.length = _
        rw [(Sp.close_parts _).1, (Sp.puts_parts _ _ _).1]
theorem fine_start (st : List Sty) (b : Sty) (hard : Bool) : Fine st b hard 0 (Sp.start st b hard).begin_ := by
  obtain ⟨a1, a2, a3, a4, a5, a6⟩ := begin_parts (Sp.start st b hard)
  have hl : (Sp.start st b hard).opn.length = 0 := rfl
  have hc : (Sp.start st b hard).count = 0 := rfl
  rw [hl] at a3 a6
  rw [hc] at a5 a6
  refine ⟨a1.sty, a1.blk, a1.hard, by omega, a4, by rw [a1.len]; exact Nat.le_refl _, fun o ho => ?_, ⟨a5, by simpa using a6⟩, by rw [a2]; exact Nat.le_refl _⟩
  obtain ⟨p, hp, _⟩ := a1.mem o ho
  cases hp
theorem noRow_of {c : Array Value} {q : TypeId} (h : q ∉ [tPos, tInt, tPar, tOpn]) : noRow (.cells c q (0, 0)) := fun c' q' hq e => by
  cases e
  exact h hq
set_option maxHeartbeats 16000000 in
set_option maxRecDepth 100000 in
theorem split_calls (block : Int) (AI A : Option Addr) (cI c : Nat) (items : List Itm) (st : List Sty) (hard : Bool) (w : World) (hI : Kd.C kItm w AI items.length items) (hcI : items.length ≤ cI) (hS : Kd.C kSty w A st.length st) (hc : st.length ≤ c) (hli : items.length ≤ 80000) (hls : st.length ≤ 100000000000)
    (hu : ∀ s, s ∈ st → u8 s.f1 ∧ u8 s.f2) (hG : LaidW w) :
    Calls Tryd.prog 10 #[.agg #[.int .i64 block, .slice AI items.length cI], .slice A st.length c, .bool hard] w fun e w' => ∃ v, e = .returned (.tuple #[v, .int .i64 (split block items st hard).2]) ∧ Kd.S kPar tPar w' w.heap.size (fun _ => True) v (split block items st hard).1 ∧ Below w.heap.size w w' := by
  have HB := Aside0.mk (Below.refl w.heap.size w)
  have HI := Aside0.mk hI
  have HC := Aside0.mk hcI
  have HS := Aside0.mk hS
  have HSC := Aside0.mk hc
  have HLI := Aside0.mk hli
  have HLS := Aside0.mk hls
  have HU := Aside0.mk hu
  have HG := Aside0.mk hG
  clear hI hcI hS hc hli hls hu hG
  cases hr : rightB block items st
  · have HR := Aside0.mk (show split block items st hard = ([], 2) by unfold split; rw [if_pos hr])
    rw [HR.out]
    have HM := Aside0.mk hr
    clear hr
    go_enter Tryd.func10, Tryd.ntmps10
    go_wp2_with (go_at_call 21; refine (right_calls block AI A cI c items st _ (Kd.C_below HI.out ((Below.refl _ w).alloc (Nat.le_refl _) _)) HC.out (Kd.C_below HS.out ((Below.refl _ w).alloc (Nat.le_refl _) _)) HSC.out (by have := HLI.out; omega) HLS.out).mono ?_; rintro e w2 ⟨rfl, hb⟩; rw [HM.out]; have HB2 := Aside0.mk (below_step (below_alloc HB.out _) hb); clear hb)
    go_ret2
    exact ⟨_, rfl, Kd.S_nil _ _ _ _ _, HB2.out⟩
  · have HM := Aside0.mk hr
    have hrb : ¬ (block < 0 ∨ (st.length : Int) ≤ block ∨ st.all mayB = false) ∧ runR st.length items [] = true := by
      unfold rightB at hr
      split at hr
      · cases hr
      · exact ⟨by assumption, hr⟩
    clear hr
    have hbl : 0 ≤ block ∧ block < st.length := by omega
    have HBL := Aside0.mk hbl
    have HRUN := Aside0.mk hrb.2
    clear hrb
    obtain ⟨ad, rfl, -⟩ := at_T52 HS.out block hbl.1 hbl.2
    obtain ⟨bs, hbs⟩ : ∃ bs, rd_T52 st block = bs := ⟨_, rfl⟩
    have HBS := Aside0.mk hbs
    have n1 := hbl.1
    have n2 := hbl.2
    clear hbs hbl
    go_enter Tryd.func10, Tryd.ntmps10
    go_upto_region 4 with (go_at_call 21; refine (right_calls block AI (some ad) cI c items st _ (Kd.C_below HI.out ((Below.refl _ w).alloc (Nat.le_refl _) _)) HC.out (Kd.C_below HS.out ((Below.refl _ w).alloc (Nat.le_refl _) _)) HSC.out (by have := HLI.out; omega) HLS.out).mono ?_; rintro e w2 ⟨rfl, hb⟩; rw [HM.out]; have HB2 := Aside0.mk (below_step (below_alloc HB.out _) hb); have hfb := blk_below (blk_new w (.cells #[.int .i64 block, .slice AI items.length cI] 24)) hb; have cf0 := blk_cell hfb 0; have cf1 := blk_cell hfb 1; simp only [List.getElem?_toArray, List.getElem?_cons_zero, List.getElem?_cons_succ] at cf0 cf1; have HFB := Aside0.mk hfb; clear hfb; clear hb; obtain ⟨ad', hA, x0, x1, x2, x3, x4, x5⟩ := at_T52 (Kd.C_below HS.out HB2.out) block HBL.out.1 HBL.out.2; cases hA; rw [HBS.out] at x0 x1 x2 x3 x4 x5)
    clear x0 x1 x2 x3 x4 x5 n1 n2
    obtain ⟨g, hg⟩ : ∃ g, w2.heap.size = g := ⟨_, rfl⟩
    obtain ⟨S0, hS0⟩ : ∃ S0, Sp.start st bs hard = S0 := ⟨_, rfl⟩
    have HS0 := Aside0.mk hS0
    obtain ⟨w3, hw3⟩ : ∃ w3, w3 = w2.alloc (.cells (spC (Sp.start st bs hard) (.slice (some ad) st.length c) (.slice none 0 0) (.slice none 0 0) (.slice none 0 0) (.slice none 0 0)) tSp) := ⟨_, rfl⟩
    refine (show Code.wp _ _ _ _ w3 from ?_ : Code.wp _ _ _ _ _) |> fun h => by rw [hw3] at h; exact h
    have hD : SpD w w3 g (fun _ => True) S0 (.slice (some ad) st.length c) (.slice none 0 0) (.slice none 0 0) (.slice none 0 0) (.slice none 0 0) := by
      rw [← hS0, hw3, ← hg]
      exact ⟨blk_new w2 _, HB2.out.size, ⟨some ad, c, rfl, HSC.out, HS.out⟩, Kd.S_nil _ _ _ _ _, Kd.R_nil _ _ _ _ _⟩
    have HD := Aside0.mk hD
    have HB3 := Aside0.mk (show Below w.heap.size w w3 by rw [hw3]; exact below_alloc HB2.out _)
    have HFB3 := Aside0.mk (show w3.heap[w.heap.size]? = some (.cells #[.int .i64 block, .slice AI items.length cI] 24 (0, 0)) by rw [hw3]; exact blk_alloc HFB.out _)
    have HGE := Aside0.mk (show w.heap.size < g by rw [← hg]; exact blk_lt HFB.out)
    have HFS := Aside0.mk (show Fine st bs hard 0 S0.begin_ by rw [← hS0]; exact fine_start st bs hard)
    have HBU := Aside0.mk (show u8 S0.block.f1 by
      rw [← hS0]
      have : bs ∈ st := by
        rw [← HBS.out]
        show st.getD block.toNat _ ∈ st
        rw [List.getD_eq_getElem?_getD, List.getElem?_eq_getElem (by have := HBL.out; omega)]
        exact List.getElem_mem _
      exact (HU.out bs this).1)
    have HSE := Aside0.mk (show S0.opn = [] ∧ S0.count = 0 ∧ S0.block = bs by rw [← hS0]; exact ⟨rfl, rfl, rfl⟩)
    have HSP := Aside0.mk (show splitS block items st hard = (runI items 0 S0.begin_).fin by rw [← hS0, ← HBS.out]; rfl)
    rw [hg]
    clear hD hw3 hS0 cf0 cf1 HFB hg HB2
    go_wp2_with (go_at_call 22; refine (begin_calls w _ g (fun _ => True) S0 _ _ _ _ _ HD.out HB3.out (fun _ _ => trivial) HBU.out (by rw [HSE.out.1]; intro o ho; cases ho) HG.out (by rw [HSE.out.1]; decide) (by rw [HSE.out.2.1]; decide)).mono ?_; rintro e w4 ⟨rfl, ⟨vl4, vp4, hv⟩, hb, hk⟩; have HV4 := Aside0.mk hv; have HB4 := Aside0.mk hb; have hfb := hk.2 _ _ HFB3.out (by have := HGE.out; omega) (.inr (noRow_of (by decide))); have cf1 := blk_cell hfb 1; simp only [List.getElem?_toArray, List.getElem?_cons_zero, List.getElem?_cons_succ] at cf1; clear hv hb hk hfb)
    go_loopg [31] items.length (fun gk v31 wr => ∃ (i : Nat) (S : Sp) (op : List Int) (vo vl vp vn : Value), v31 = .int .i64 (i : Int) ∧ Aside0 (gk = items.length - i ∧ i ≤ items.length ∧ Fine st bs hard i S ∧ op.length = S.opn.length ∧ runR st.length (items.drop i) op = true ∧ runI (items.drop i) (i : Int) S = runI items 0 S0.begin_) ∧ Aside0 (SpV w wr g (fun _ => True) S (.slice (some ad) st.length c) vo vl vp vn) ∧ Aside0 (Below w.heap.size w wr))
    case atStart => exact ⟨0, S0.begin_, [], _, _, _, _, rfl, ⟨rfl, Nat.zero_le _, HFS.out, by rw [(begin_parts S0).1.len, HSE.out.1]; rfl, HRUN.out, rfl⟩, HV4, HB4⟩
    case round =>
      clear HV4 HB4 HD HB3 HFB3 HFS HRUN HB cf1
      obtain ⟨i, S, op, vo, vl, vp, vn, rfl, HQ, HV, HBR⟩ := hrel
      by_cases hi : i < items.length
      · obtain ⟨ai, hA, x0, x1, x2, x3, x4⟩ := at_T47 (Kd.C_below HI.out HBR.out) (i : Int) (by omega) (by omega)
        cases hA
        rw [Int.toNat_natCast] at x0 x1 x2 x3 x4
        obtain ⟨x, hx⟩ : ∃ x, rd_T47 items (i : Int) = x := ⟨_, rfl⟩
        have HRO := Aside0.mk (runR_ok st.length items i op hi x hx HQ.out.2.2.2.2.1)
        have HRI := Aside0.mk (runI_step items i S hi x hx)
        rw [hx] at x0 x1 x2 x3 x4
        have hi2 : (i : Int) < (items.length : Int) := by omega
        have hi3 : (i : Int) < 80000 := by have := HLI.out; omega
        have HIL := Aside0.mk hi
        clear hx hi
        go_wp2_with (go_at_call 23; refine (item_calls w _ g (fun _ => True) st bs hard i S _ vo vl vp vn x (i : Int) HQ.out.2.2.1 (by have := HIL.out; have := HLI.out; omega) HRO.out.1.2.2 (fun _ => ⟨HRO.out.1.1, HRO.out.1.2.1⟩) (fun h => by rw [← HQ.out.2.2.2.1]; exact HRO.out.2.1 h) (HSE.out.2.2 ▸ HBU.out) HU.out (HV.out.alloc _) (below_alloc HBR.out _) (fun _ _ => trivial) HG.out).mono ?_; rintro e w5 ⟨rfl, ⟨vo5, vl5, vp5, vn5, hv⟩, hb, hk⟩; have HV5 := Aside0.mk hv; have HB5 := Aside0.mk hb; clear hv hb hk)
        go_roundg (items.length - (i + 1))
        case measure => have := HQ.out.1; have := HIL.out; omega
        case rel =>
          obtain ⟨op', h1, h2⟩ := HRO.out.2.2
          exact ⟨i + 1, S.item x i, op', _, _, _, _, by go_num, ⟨rfl, HIL.out, fine_item HQ.out.2.2.1 x i (fun _ => ⟨HRO.out.1.1, HRO.out.1.2.1⟩), by rw [h2, item_len, HQ.out.2.2.2.1], h1, HRI.out.symm.trans HQ.out.2.2.2.2.2⟩, HV5, HB5⟩
      · obtain rfl : i = items.length := by have := HQ.out.2.1; omega
        have hend : runI items 0 S0.begin_ = S := by have := HQ.out.2.2.2.2.2; rw [List.drop_length] at this; exact this.symm
        have HEND := Aside0.mk hend
        clear hend
        have HNB := Aside0.mk (show S.L.length ≤ 320004 ∧ S.pieces.length = S.L.length ∧ S.out.length ≤ 80000 by
          have h1 := HQ.out.2.2.1.L
          have h2 := HQ.out.2.2.1.out
          have := HLI.out
          exact ⟨by omega, HQ.out.2.2.1.pieces, by omega⟩)
        have HCB := Aside0.mk (show u8 S.block.f1 by rw [HQ.out.2.2.1.blk]; exact HSE.out.2.2 ▸ HBU.out)
        have HCP := Aside0.mk S.close_parts
        have HSX := Aside0.mk (show splitS block items st hard = S.fin by rw [HSP.out, HEND.out])
        clear HBU HSP HEND HQ
        obtain ⟨Ao, co, rfl⟩ := Kd.S_slice HV.out.out
        obtain ⟨hc0, hc1, hc2, hc3, hc4, hc5, hc6, hc7, hc8, hc9, hc10, hc11, hc12, hc13, hc14, hc15, hcf⟩ := sp_cells HV.out.blk
        have hol : (S.out.length : Int) ≤ 80000 := by have := HNB.out; omega
        by_cases hs : S.started = true
        · have HF := Aside0.mk (show splitS block items st hard = S.close.end_ by rw [HSX.out]; unfold Sp.fin; rw [if_pos (.inl hs)])
          rw [hs] at hc15
          clear hs
          go_wp2_with (first
            | (go_at_call 24; refine (close_calls w _ g (fun _ => True) S _ (.slice Ao S.out.length co) vl vp vn HV.out HBR.out (fun _ _ => trivial) HCB.out (HG.out.below HBR.out) (by have := HNB.out.1; omega) (by have := HNB.out; omega)).mono ?_; rintro e w4 ⟨rfl, ⟨vl4, vp4, hv4⟩, hb4, hk4⟩; have HV4 := Aside0.mk hv4; have HB4 := Aside0.mk hb4; clear hv4 hb4 hk4; clear hc0 hc1 hc2 hc3 hc4 hc5 hc6 hc7 hc8 hc9 hc10 hc11 hc12 hc13 hc14 hc15 hcf; obtain ⟨hc0, hc1, hc2, hc3, hc4, hc5, hc6, hc7, hc8, hc9, hc10, hc11, hc12, hc13, hc14, hc15, hcf⟩ := sp_cells HV4.out.blk)
            | (go_at_call 25; refine (end_calls w _ g (fun _ => True) S.close _ (.slice Ao S.out.length co) vl4 vp4 vn HV4.out HB4.out (fun _ _ => trivial) (by have := HCP.out; have := HNB.out; omega) (by have := HCP.out; have := HNB.out; omega) (by have := HCP.out.2.2.2.1; rw [this]; have := HNB.out; omega)).mono ?_; rintro e w6 ⟨rfl, ⟨vo6, hv6⟩, hb6, hk6⟩; obtain ⟨A6, c6, rfl⟩ := Kd.S_slice hv6.out; have HD6 := Aside0.mk hv6; have HB6 := Aside0.mk hb6; clear hv6 hb6 hk6; clear hc0 hc1 hc2 hc3 hc4 hc5 hc6 hc7 hc8 hc9 hc10 hc11 hc12 hc13 hc14 hc15 hcf; obtain ⟨hc0, hc1, hc2, hc3, hc4, hc5, hc6, hc7, hc8, hc9, hc10, hc11, hc12, hc13, hc14, hc15, hcf⟩ := sp_cells HD6.out.blk; obtain ⟨P, hP⟩ : ∃ P, S.close.end_.out = P := ⟨_, rfl⟩; have HPE := Aside0.mk hP; rw [hP] at hc8; clear hP))
          have HPC := Aside0.mk (show Kd.C kPar w6 A6 P.length P by have := (Kd.S_reads' HD6.out.out).2.2; rw [HPE.out] at this; exact this)
          have HPL := Aside0.mk (show P.length ≤ 90000 by rw [← HPE.out, (end_like S.close).2, HCP.out.2.2.2.1]; have := HNB.out; omega)
          go_loopg [62] P.length (fun gk v62 wr2 => ∃ j : Nat, v62 = .int .i64 (j : Int) ∧ Aside0 (gk = P.length - j ∧ j ≤ P.length ∧ ∀ q, q < j → (P.getD q z39).f1.length ≤ 65536) ∧ Aside0 (Below w6.heap.size w6 wr2))
          case atStart => exact ⟨0, rfl, ⟨rfl, Nat.zero_le _, fun q hq => by omega⟩, ⟨Below.refl _ _⟩⟩
          case round =>
            obtain ⟨j, rfl, HQ2, HBJ⟩ := hrel
            by_cases hj : j < P.length
            · obtain ⟨ap, A1, c1, hA, x0, x1, x2, l1, -⟩ := at_T39 (Kd.C_below HPC.out HBJ.out) (j : Int) (by omega) (by omega)
              cases hA
              rw [Int.toNat_natCast] at x0 x1 x2
              obtain ⟨p, hp⟩ : ∃ p, rd_T39 P (j : Int) = p := ⟨_, rfl⟩
              rw [hp] at x0 x1 x2
              have HPP := Aside0.mk (show P.getD j z39 = p from hp)
              have hj2 : (j : Int) < (P.length : Int) := by omega
              have hj3 : (j : Int) < 90000 := by have := HPL.out; omega
              have HJ := Aside0.mk hj
              clear hp hj l1
              by_cases hk : (65536 : Int) < (p.f1.length : Int)
              · have HX := Aside0.mk (show split block items st hard = ([], 3) by
                  have : tooLong (splitS block items st hard).out = true := by
                    rw [HF.out, HPE.out]
                    refine List.any_eq_true.2 ⟨p, ?_, decide_eq_true (by omega)⟩
                    rw [← HPP.out, List.getD_eq_getElem?_getD, List.getElem?_eq_getElem HJ.out]
                    exact List.getElem_mem _
                  unfold split
                  rw [if_neg (by rw [HM.out]; decide), if_pos this])
                replace hk := decide_eq_true hk
                go_wp2
                go_ret2
                exact ⟨_, by rw [HX.out]; rfl, by rw [HX.out]; exact Kd.S_nil _ _ _ _ _, below_alloc (below_step HB6.out HBJ.out) _⟩
              · have HK := Aside0.mk (show p.f1.length ≤ 65536 by omega)
                replace hk := decide_eq_false hk
                go_wp2
                go_roundg (P.length - (j + 1))
                case measure => have := HQ2.out.1; have := HJ.out; omega
                case rel =>
                  refine ⟨j + 1, by go_num, ⟨rfl, HJ.out, fun q hq => ?_⟩, ⟨HBJ.out.alloc (HBJ.out.size) _⟩⟩
                  by_cases he : q < j
                  · exact HQ2.out.2.2 q he
                  · rw [show q = j by omega, HPP.out]
                    exact HK.out
            · obtain rfl : j = P.length := by have := HQ2.out.2.1; omega
              have HX := Aside0.mk (show split block items st hard = (P, 0) by
                have : ¬ tooLong (splitS block items st hard).out = true := by
                  rw [HF.out, HPE.out]
                  intro h
                  obtain ⟨p, hp, hl⟩ := List.any_eq_true.1 h
                  obtain ⟨q, hq, rfl⟩ := List.getElem_of_mem hp
                  have h1 := HQ2.out.2.2 q hq
                  rw [List.getD_eq_getElem?_getD, List.getElem?_eq_getElem hq] at h1
                  have h2 : 65536 < P[q].f1.length := of_decide_eq_true hl
                  have h3 : P[q].f1.length ≤ 65536 := h1
                  omega
                unfold split
                rw [if_neg (by rw [HM.out]; decide), if_neg this, HF.out, HPE.out])
              have HDJ := Aside0.mk (HD6.out.below HBJ.out)
              clear hc0 hc1 hc2 hc3 hc4 hc5 hc6 hc7 hc8 hc9 hc10 hc11 hc12 hc13 hc14 hc15 hcf
              obtain ⟨hc0, hc1, hc2, hc3, hc4, hc5, hc6, hc7, hc8, hc9, hc10, hc11, hc12, hc13, hc14, hc15, hcf⟩ := sp_cells HDJ.out.blk
              go_wp2
              go_ret2
              exact ⟨_, by rw [HX.out]; rfl, by rw [HX.out]; exact HPE.out ▸ HDJ.out.out, below_step HB6.out HBJ.out⟩
        · have hs' : S.started = false := by simpa using hs
          rw [hs'] at hc15
          by_cases h0 : S.out.length = 0
          · have HF := Aside0.mk (show splitS block items st hard = S.close.end_ by rw [HSX.out]; unfold Sp.fin; rw [if_pos (.inr h0)])
            have h0b : ((S.out.length : Int) == 0) = true := by rw [h0]; rfl
            clear hs hs' h0
            go_wp2_with (first
              | (go_at_call 24; refine (close_calls w _ g (fun _ => True) S _ (.slice Ao S.out.length co) vl vp vn HV.out HBR.out (fun _ _ => trivial) HCB.out (HG.out.below HBR.out) (by have := HNB.out.1; omega) (by have := HNB.out; omega)).mono ?_; rintro e w4 ⟨rfl, ⟨vl4, vp4, hv4⟩, hb4, hk4⟩; have HV4 := Aside0.mk hv4; have HB4 := Aside0.mk hb4; clear hv4 hb4 hk4; clear hc0 hc1 hc2 hc3 hc4 hc5 hc6 hc7 hc8 hc9 hc10 hc11 hc12 hc13 hc14 hc15 hcf; obtain ⟨hc0, hc1, hc2, hc3, hc4, hc5, hc6, hc7, hc8, hc9, hc10, hc11, hc12, hc13, hc14, hc15, hcf⟩ := sp_cells HV4.out.blk)
              | (go_at_call 25; refine (end_calls w _ g (fun _ => True) S.close _ (.slice Ao S.out.length co) vl4 vp4 vn HV4.out HB4.out (fun _ _ => trivial) (by have := HCP.out; have := HNB.out; omega) (by have := HCP.out; have := HNB.out; omega) (by have := HCP.out.2.2.2.1; rw [this]; have := HNB.out; omega)).mono ?_; rintro e w6 ⟨rfl, ⟨vo6, hv6⟩, hb6, hk6⟩; obtain ⟨A6, c6, rfl⟩ := Kd.S_slice hv6.out; have HD6 := Aside0.mk hv6; have HB6 := Aside0.mk hb6; clear hv6 hb6 hk6; clear hc0 hc1 hc2 hc3 hc4 hc5 hc6 hc7 hc8 hc9 hc10 hc11 hc12 hc13 hc14 hc15 hcf; obtain ⟨hc0, hc1, hc2, hc3, hc4, hc5, hc6, hc7, hc8, hc9, hc10, hc11, hc12, hc13, hc14, hc15, hcf⟩ := sp_cells HD6.out.blk; obtain ⟨P, hP⟩ : ∃ P, S.close.end_.out = P := ⟨_, rfl⟩; have HPE := Aside0.mk hP; rw [hP] at hc8; clear hP))
            have HPC := Aside0.mk (show Kd.C kPar w6 A6 P.length P by have := (Kd.S_reads' HD6.out.out).2.2; rw [HPE.out] at this; exact this)
            have HPL := Aside0.mk (show P.length ≤ 90000 by rw [← HPE.out, (end_like S.close).2, HCP.out.2.2.2.1]; have := HNB.out; omega)
            go_loopg [62] P.length (fun gk v62 wr2 => ∃ j : Nat, v62 = .int .i64 (j : Int) ∧ Aside0 (gk = P.length - j ∧ j ≤ P.length ∧ ∀ q, q < j → (P.getD q z39).f1.length ≤ 65536) ∧ Aside0 (Below w6.heap.size w6 wr2))
            case atStart => exact ⟨0, rfl, ⟨rfl, Nat.zero_le _, fun q hq => by omega⟩, ⟨Below.refl _ _⟩⟩
            case round =>
              obtain ⟨j, rfl, HQ2, HBJ⟩ := hrel
              by_cases hj : j < P.length
              · obtain ⟨ap, A1, c1, hA, x0, x1, x2, l1, -⟩ := at_T39 (Kd.C_below HPC.out HBJ.out) (j : Int) (by omega) (by omega)
                cases hA
                rw [Int.toNat_natCast] at x0 x1 x2
                obtain ⟨p, hp⟩ : ∃ p, rd_T39 P (j : Int) = p := ⟨_, rfl⟩
                rw [hp] at x0 x1 x2
                have HPP := Aside0.mk (show P.getD j z39 = p from hp)
                have hj2 : (j : Int) < (P.length : Int) := by omega
                have hj3 : (j : Int) < 90000 := by have := HPL.out; omega
                have HJ := Aside0.mk hj
                clear hp hj l1
                by_cases hk : (65536 : Int) < (p.f1.length : Int)
                · have HX := Aside0.mk (show split block items st hard = ([], 3) by
                    have : tooLong (splitS block items st hard).out = true := by
                      rw [HF.out, HPE.out]
                      refine List.any_eq_true.2 ⟨p, ?_, decide_eq_true (by omega)⟩
                      rw [← HPP.out, List.getD_eq_getElem?_getD, List.getElem?_eq_getElem HJ.out]
                      exact List.getElem_mem _
                    unfold split
                    rw [if_neg (by rw [HM.out]; decide), if_pos this])
                  replace hk := decide_eq_true hk
                  go_wp2
                  go_ret2
                  exact ⟨_, by rw [HX.out]; rfl, by rw [HX.out]; exact Kd.S_nil _ _ _ _ _, below_alloc (below_step HB6.out HBJ.out) _⟩
                · have HK := Aside0.mk (show p.f1.length ≤ 65536 by omega)
                  replace hk := decide_eq_false hk
                  go_wp2
                  go_roundg (P.length - (j + 1))
                  case measure => have := HQ2.out.1; have := HJ.out; omega
                  case rel =>
                    refine ⟨j + 1, by go_num, ⟨rfl, HJ.out, fun q hq => ?_⟩, ⟨HBJ.out.alloc (HBJ.out.size) _⟩⟩
                    by_cases he : q < j
                    · exact HQ2.out.2.2 q he
                    · rw [show q = j by omega, HPP.out]
                      exact HK.out
              · obtain rfl : j = P.length := by have := HQ2.out.2.1; omega
                have HX := Aside0.mk (show split block items st hard = (P, 0) by
                  have : ¬ tooLong (splitS block items st hard).out = true := by
                    rw [HF.out, HPE.out]
                    intro h
                    obtain ⟨p, hp, hl⟩ := List.any_eq_true.1 h
                    obtain ⟨q, hq, rfl⟩ := List.getElem_of_mem hp
                    have h1 := HQ2.out.2.2 q hq
                    rw [List.getD_eq_getElem?_getD, List.getElem?_eq_getElem hq] at h1
                    have h2 : 65536 < P[q].f1.length := of_decide_eq_true hl
                    have h3 : P[q].f1.length ≤ 65536 := h1
                    omega
                  unfold split
                  rw [if_neg (by rw [HM.out]; decide), if_neg this, HF.out, HPE.out])
                have HDJ := Aside0.mk (HD6.out.below HBJ.out)
                clear hc0 hc1 hc2 hc3 hc4 hc5 hc6 hc7 hc8 hc9 hc10 hc11 hc12 hc13 hc14 hc15 hcf
                obtain ⟨hc0, hc1, hc2, hc3, hc4, hc5, hc6, hc7, hc8, hc9, hc10, hc11, hc12, hc13, hc14, hc15, hcf⟩ := sp_cells HDJ.out.blk
                go_wp2
                go_ret2
                exact ⟨_, by rw [HX.out]; rfl, by rw [HX.out]; exact HPE.out ▸ HDJ.out.out, below_step HB6.out HBJ.out⟩
          · have HF := Aside0.mk (show splitS block items st hard = S by rw [HSX.out]; unfold Sp.fin; rw [if_neg (fun h => h.elim hs h0)])
            have h0b : ((S.out.length : Int) == 0) = false := by simpa using h0
            clear hs hs' h0
            obtain ⟨w6, hw6⟩ : ∃ w6, w6 = wr := ⟨_, rfl⟩
            subst hw6
            have HD6 := Aside0.mk HV.out.dead
            have HB6 := HBR
            obtain ⟨P, hP⟩ : ∃ P, S.out = P := ⟨_, rfl⟩
            have HPE := Aside0.mk hP
            have HPC := Aside0.mk (show Kd.C kPar w6 Ao P.length P by have := (Kd.S_reads' HD6.out.out).2.2; rw [hP] at this; exact this)
            have HPL := Aside0.mk (show P.length ≤ 90000 by rw [← hP]; have := HNB.out; omega)
            rw [hP] at hc8 hol
            clear hP
            rw [HPE.out] at h0b
            go_wp2
            go_loopg [62] P.length (fun gk v62 wr2 => ∃ j : Nat, v62 = .int .i64 (j : Int) ∧ Aside0 (gk = P.length - j ∧ j ≤ P.length ∧ ∀ q, q < j → (P.getD q z39).f1.length ≤ 65536) ∧ Aside0 (Below w6.heap.size w6 wr2))
            case atStart => exact ⟨0, rfl, ⟨rfl, Nat.zero_le _, fun q hq => by omega⟩, ⟨Below.refl _ _⟩⟩
            case round =>
              obtain ⟨j, rfl, HQ2, HBJ⟩ := hrel
              by_cases hj : j < P.length
              · obtain ⟨ap, A1, c1, hA, x0, x1, x2, l1, -⟩ := at_T39 (Kd.C_below HPC.out HBJ.out) (j : Int) (by omega) (by omega)
                cases hA
                rw [Int.toNat_natCast] at x0 x1 x2
                obtain ⟨p, hp⟩ : ∃ p, rd_T39 P (j : Int) = p := ⟨_, rfl⟩
                rw [hp] at x0 x1 x2
                have HPP := Aside0.mk (show P.getD j z39 = p from hp)
                have hj2 : (j : Int) < (P.length : Int) := by omega
                have hj3 : (j : Int) < 90000 := by have := HPL.out; omega
                have HJ := Aside0.mk hj
                clear hp hj l1
                by_cases hk : (65536 : Int) < (p.f1.length : Int)
                · have HX := Aside0.mk (show split block items st hard = ([], 3) by
                    have : tooLong (splitS block items st hard).out = true := by
                      rw [HF.out, HPE.out]
                      refine List.any_eq_true.2 ⟨p, ?_, decide_eq_true (by omega)⟩
                      rw [← HPP.out, List.getD_eq_getElem?_getD, List.getElem?_eq_getElem HJ.out]
                      exact List.getElem_mem _
                    unfold split
                    rw [if_neg (by rw [HM.out]; decide), if_pos this])
                  replace hk := decide_eq_true hk
                  go_wp2
                  go_ret2
                  exact ⟨_, by rw [HX.out]; rfl, by rw [HX.out]; exact Kd.S_nil _ _ _ _ _, below_alloc (below_step HB6.out HBJ.out) _⟩
                · have HK := Aside0.mk (show p.f1.length ≤ 65536 by omega)
                  replace hk := decide_eq_false hk
                  go_wp2
                  go_roundg (P.length - (j + 1))
                  case measure => have := HQ2.out.1; have := HJ.out; omega
                  case rel =>
                    refine ⟨j + 1, by go_num, ⟨rfl, HJ.out, fun q hq => ?_⟩, ⟨HBJ.out.alloc (HBJ.out.size) _⟩⟩
                    by_cases he : q < j
                    · exact HQ2.out.2.2 q he
                    · rw [show q = j by omega, HPP.out]
                      exact HK.out
              · obtain rfl : j = P.length := by have := HQ2.out.2.1; omega
                have HX := Aside0.mk (show split block items st hard = (P, 0) by
                  have : ¬ tooLong (splitS block items st hard).out = true := by
                    rw [HF.out, HPE.out]
                    intro h
                    obtain ⟨p, hp, hl⟩ := List.any_eq_true.1 h
                    obtain ⟨q, hq, rfl⟩ := List.getElem_of_mem hp
                    have h1 := HQ2.out.2.2 q hq
                    rw [List.getD_eq_getElem?_getD, List.getElem?_eq_getElem hq] at h1
                    have h2 : 65536 < P[q].f1.length := of_decide_eq_true hl
                    have h3 : P[q].f1.length ≤ 65536 := h1
                    omega
                  unfold split
                  rw [if_neg (by rw [HM.out]; decide), if_neg this, HF.out, HPE.out])
                have HDJ := Aside0.mk (HD6.out.below HBJ.out)
                clear hc0 hc1 hc2 hc3 hc4 hc5 hc6 hc7 hc8 hc9 hc10 hc11 hc12 hc13 hc14 hc15 hcf
                obtain ⟨hc0, hc1, hc2, hc3, hc4, hc5, hc6, hc7, hc8, hc9, hc10, hc11, hc12, hc13, hc14, hc15, hcf⟩ := sp_cells HDJ.out.blk
                go_wp2
                go_ret2
                exact ⟨_, by rw [HX.out]; rfl, by rw [HX.out]; exact HPE.out ▸ HDJ.out.out, below_step HB6.out HBJ.out⟩
end Go.Proofs.YtlfpjlpaiaonkaaDoor.Sp

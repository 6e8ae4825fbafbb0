/- Layer 13's splitter: item, but for a break. -/
import Derived.Test.YtlfpjlpaiaonkaaDoorSpF
import Derived.Deep.RegionWith
import Derived.Outline
namespace Go.Proofs.YtlfpjlpaiaonkaaDoor.Sp
open Go.RowKit Go.Proofs.YtlfpjlpaiaonkaaDoorW.PrintWords Go.Proofs.YtlfpjlpaiaonkaaDoorW.PrintLast Go.Proofs.YtlfpjlpaiaonkaaDoorW.PrintMore Go.Proofs.YtlfpjlpaiaonkaaDoorH Go.Proofs.YtlfpjlpaiaonkaaDoor.P Go.Proofs.YtlfpjlpaiaonkaaDoor.Mp
attribute [local go_sem] max2_int min2_int max_two min_two max_three min_three max_four min_four
set_option linter.unusedVariables false
set_option linter.unusedSimpArgs false
abbrev Itm := S47
/-- The splitter's rows lie neither in the blocks made since w, up to w1. -/
def okX (ok : Nat → Prop) (w w1 : World) (k : Nat) : Prop := ok k ∧ (k < w.heap.size ∨ w1.heap.size ≤ k)
section
variable {w0 w w1 w2 : World} {g : Nat} {ok : Nat → Prop} {S : Sp} {vs vo vl vp vn : Value}
theorem SpV.okX (h : SpV w0 w g ok S vs vo vl vp vn) (hb : Below w.heap.size w w1) : SpV w0 w1 g (okX ok w w1) S vs vo vl vp vn :=
  (h.bound.mono (fun k hk => ⟨hk.1, .inl hk.2⟩)).below hb
theorem okX_fresh (hok : ∀ k, w.heap.size ≤ k → ok k) (hs : w.heap.size ≤ w1.heap.size) : ∀ k, w1.heap.size ≤ k → okX ok w w1 k := fun k hk => ⟨hok k (Nat.le_trans hs hk), .inr hk⟩
/-- A block that was made in between stays. -/
theorem Kp.made {k : Nat} {o : Obj} (h : Kp w1 w2 g (okX ok w w1)) (hk : w1.heap[k]? = some o) (hw : w.heap.size ≤ k) (hg : k ≠ g) : w2.heap[k]? = some o :=
  h.2 k o hk hg (.inl fun ho => by have := blk_lt hk; rcases ho.2 with h1 | h1 <;> omega)
theorem Kp.ofX (h : Kp w1 w2 g (okX ok w w1)) (hb : Below w.heap.size w w1) : Kp w w2 g ok :=
  ⟨Nat.le_trans hb.size h.1, fun k o hk hg ho => h.2 k o ((hb.block k (blk_lt hk)).trans hk) hg (ho.imp (fun hn hx => hn hx.1) id)⟩
end
theorem Kp.drewL {w w2 : World} {g : Nat} {ok : Nat → Prop} (h : Kp w.drew w2 g ok) : Kp w w2 g ok := h
theorem okX_not {ok : Nat → Prop} {w w2 : World} {b k : Nat} (hb : w.heap.size + 3 = b) (h2 : b < w2.heap.size) (h1 : w.heap.size ≤ k) (h3 : k < b) : ¬ (okX ok w w2 k ∨ k = b) := by
  rintro (h | h)
  · rcases h.2 with h | h <;> omega
  · omega
/-- An open, a close, a character. -/
def Sp.open_ (S : Sp) (it : Itm) (i : Int) : Sp :=
  let o : Opn := ⟨i, S.styles.getD it.f1.toNat z52, 0⟩
  let E := S.enter o S.inner
  { E.1 with opn := S.opn ++ [{ o with f2 := E.2 }], started := true }
def Sp.shut (S : Sp) (i : Int) : Sp :=
  let o := S.opn.getD (S.opn.length - 1) z98
  { S.put (ctlR o.f1.f2 o.f1.f1).2 i with opn := S.opn.take (S.opn.length - 1), started := true }
def itmC (it : Itm) : Array Value := #[.int .u8 it.f0, .int .i64 it.f1, .bool it.f2, .int .i32 it.f3, .int .i64 it.f4]
set_option maxHeartbeats 4000000 in
set_option maxRecDepth 100000 in
theorem item_char (w0 w : World) (g : Nat) (ok : Nat → Prop) (S : Sp) (vs vo vl vp vn : Value) (it : Itm) (item : Int) (hk3 : it.f0 = 3) (hV : SpV w0 w g ok S vs vo vl vp vn) (hB : Below w0.heap.size w0 w) (hok : ∀ k, w.heap.size ≤ k → ok k) (hl : S.L.length ≤ 100000000000) (hp : S.pieces.length = S.L.length) (ho : S.out.length ≤ 100000000000)
    (hu : u8 S.block.f1) (huo : ∀ o, o ∈ S.opn → u8 o.f1.f1 ∧ u8 o.f1.f2) (hG : LaidW w0) (hn : S.opn.length ≤ 10000000000) (hc : 0 ≤ S.count ∧ S.count ≤ 10000000000) :
    Calls Tryd.prog 23 #[.pointer (some ⟨g, 0, none⟩), .agg (itmC it), .int .i64 item] w fun e' w' => e' = .returned (.tuple #[]) ∧ (∃ vo' vl' vp', SpV w0 w' g ok (S.char it.f3 item) vs vo' vl' vp' vn) ∧ Below w0.heap.size w0 w' ∧ Kp w w' g ok := by
  have HV := Aside0.mk hV
  have HB := Aside0.mk hB
  have HK := Aside0.mk hok
  have HL := Aside0.mk hl
  have HP := Aside0.mk hp
  have HO := Aside0.mk ho
  have HU := Aside0.mk hu
  have HUO := Aside0.mk huo
  have HG := Aside0.mk hG
  have HN := Aside0.mk hn
  have HCT := Aside0.mk hc
  unfold itmC
  rw [hk3]
  clear hk3 hV hB hok hl hp ho hu huo hG hn hc
  go_enter Tryd.func23, Tryd.ntmps23
  go_wp2_with (go_at_call 40; refine (char_calls w0 _ g ok S vs vo vl vp vn _ item (((HV.out.alloc _).alloc _).alloc _) (below_alloc (below_alloc (below_alloc HB.out _) _) _) (fun k hk => HK.out k (by simp at hk; omega)) HL.out HP.out HO.out HU.out HUO.out HG.out HN.out HCT.out).mono ?_; rintro e w2 ⟨rfl, hv, hb, hk⟩; have HV2 := Aside0.mk hv; have HB2 := Aside0.mk hb; have HK2 := Aside0.mk ((((Kp.refl w g ok).alloc _ |>.alloc _).alloc _).trans hk); clear hv hb hk)
  go_end0
  exact ⟨rfl, HV2.out, HB2.out, HK2.out⟩
/-- Behind the boxes of item's parameters. -/
structure Boxes (w w1 : World) (g : Nat) (it : Itm) (item : Int) : Prop where
  below : Below w.heap.size w w1
  size : w1.heap.size = w.heap.size + 3
  ptr : w1.heap[w.heap.size]? = some (.cells #[.pointer (some ⟨g, 0, none⟩)] 61 (0, 0))
  itm : w1.heap[w.heap.size + 1]? = some (.cells (itmC it) 47 (0, 0))
  num : w1.heap[w.heap.size + 1 + 1]? = some (.cells #[.int .i64 item] 3 (0, 0))
theorem boxes_mk (w : World) (g : Nat) (it : Itm) (item : Int) : Boxes w (((w.alloc (.cells #[.pointer (some ⟨g, 0, none⟩)] 61)).alloc (.cells (itmC it) 47)).alloc (.cells #[.int .i64 item] 3)) g it item := by
  refine ⟨((((Below.refl _ w).alloc (Nat.le_refl _) _).alloc (by simp) _).alloc (by simp; omega) _), by simp, ?_, ?_, ?_⟩
  · exact blk_alloc (blk_alloc (blk_new w _) _) _
  · have := blk_alloc (blk_new (w.alloc (.cells #[.pointer (some ⟨g, 0, none⟩)] 61)) (.cells (itmC it) 47)) (.cells #[.int .i64 item] 3)
    simpa using this
  · have := blk_new ((w.alloc (.cells #[.pointer (some ⟨g, 0, none⟩)] 61)).alloc (.cells (itmC it) 47)) (.cells #[.int .i64 item] 3)
    simpa using this
theorem upd_none (S : Sp) (o : Opn) : S.upd o none = S := rfl
theorem open_eq (it : Itm) (S : Sp) (i : Int) (st : Sty) (h : S.styles.getD it.f1.toNat z52 = st) : S.open_ it i = { ({ (S.enter ⟨i, st, 0⟩ S.inner).1.upd ⟨i, st, (S.enter ⟨i, st, 0⟩ S.inner).2⟩ none with opn := ((S.enter ⟨i, st, 0⟩ S.inner).1.upd ⟨i, st, (S.enter ⟨i, st, 0⟩ S.inner).2⟩ none).opn ++ [⟨i, st, (S.enter ⟨i, st, 0⟩ S.inner).2⟩] } : Sp) with started := true } := by
  unfold Sp.open_
  rw [h]
  simp only [upd_none, (Sp.enter_parts S ⟨i, st, 0⟩ S.inner).2.2.2.2]
theorem opn_cells {w : World} {b : Nat} {o : Opn} (h : w.heap[b]? = some (.cells (opnC o).toArray tOpn (0, 0))) : w.cell? ⟨b, 0, none⟩ = some (.int .i64 o.f0) ∧ w.cell? ⟨b, 1, none⟩ = some (.int .u8 o.f1.f0) ∧ w.cell? ⟨b, 2, none⟩ = some (.int .u8 o.f1.f1) ∧ w.cell? ⟨b, 3, none⟩ = some (.int .u8 o.f1.f2) ∧ w.cell? ⟨b, 4, none⟩ = some (.int .u8 o.f1.f3) ∧ w.cell? ⟨b, 5, none⟩ = some (.int .i64 o.f1.f4) ∧ w.cell? ⟨b, 6, none⟩ = some (.int .i64 o.f1.f5) ∧ w.cell? ⟨b, 7, none⟩ = some (.int .i64 o.f2) :=
  ⟨blk_cell h 0, blk_cell h 1, blk_cell h 2, blk_cell h 3, blk_cell h 4, blk_cell h 5, blk_cell h 6, blk_cell h 7⟩
theorem Kp.ofB {w w2 w3 : World} {g b : Nat} {ok : Nat → Prop} (h : Kp w2 w3 g (fun k => okX ok w w2 k ∨ k = b)) (hw : Below w.heap.size w w2) (hb : w.heap.size ≤ b) : Kp w w3 g ok :=
  ⟨Nat.le_trans hw.size h.1, fun k o hk hg ho => h.2 k o ((hw.block k (blk_lt hk)).trans hk) hg (ho.imp (fun hn hx => hx.elim (fun hx => hn hx.1) (fun he => by have := blk_lt hk; omega)) id)⟩
def item_open.T5 : Bool × List (List Nat × List Nat) := (true, [([], []), ([], []), ([1], [1]), ([2], [2]), ([3], [3]), ([], []), ([5], [5]), ([4, 6], [4, 6]), ([0, 0, 1, 2, 3, 4, 5, 6, 7], [0]), ([8, 0, 1, 2, 3, 4, 5, 6, 7], [8]), ([9, 7, 7, 0, 1, 2, 3, 4, 5, 6, 7], [7, 9])])
def item_open.B5 : List Nat := [0, 0, 2, 6, 14, 0, 32, 126, 255, 511, 1023]
theorem item_open.tab5 : rtab .any (opsOf Tryd.f23 5) = item_open.T5 := by kernel_rfl
theorem item_open.bits5 : waitsOk item_open.T5.2 item_open.B5 = true := by kernel_rfl
set_option maxHeartbeats 4000000 in
set_option maxRecDepth 100000 in
theorem item_open (w0 w : World) (g : Nat) (ok : Nat → Prop) (S : Sp) (vs vo vl vp vn : Value) (it : Itm) (item : Int) (hk1 : it.f0 = 1) (hV : SpV w0 w g ok S vs vo vl vp vn) (hB : Below w0.heap.size w0 w) (hok : ∀ k, w.heap.size ≤ k → ok k) (hl : S.L.length ≤ 10000000000) (hp : S.pieces.length = S.L.length)
    (hn : S.opn.length ≤ 10000000000) (hG : LaidW w0) (hc : 0 ≤ S.count ∧ S.count ≤ 10000000000)
    (hnd : 0 ≤ it.f1 ∧ it.f1 < S.styles.length) (hus : ∀ s, s ∈ S.styles → u8 s.f1 ∧ u8 s.f2) :
    Calls Tryd.prog 23 #[.pointer (some ⟨g, 0, none⟩), .agg (itmC it), .int .i64 item] w fun e' w' => e' = .returned (.tuple #[]) ∧ (∃ vo' vl' vp' vn', SpV w0 w' g ok (S.open_ it item) vs vo' vl' vp' vn') ∧ Below w0.heap.size w0 w' ∧ Kp w w' g ok := by
  have hbx := boxes_mk w g it item
  unfold itmC
  rw [hk1]
  have HBX := Aside0.mk hbx
  clear hbx
  go_enter Tryd.func23, Tryd.ntmps23
  go_wp2
  obtain ⟨w1, hw1⟩ : ∃ w1, w1 = ((w.alloc (.cells #[.pointer (some ⟨g, 0, none⟩)] 61)).alloc (.cells #[.int .u8 1, .int .i64 it.f1, .bool it.f2, .int .i32 it.f3, .int .i64 it.f4] 47)).alloc (.cells #[.int .i64 item] 3) := ⟨_, rfl⟩
  rw [← hw1]
  have hBX : Boxes w w1 g ⟨1, it.f1, it.f2, it.f3, it.f4⟩ item := by rw [hw1]; exact boxes_mk w g ⟨1, it.f1, it.f2, it.f3, it.f4⟩ item
  clear hw1 HBX
  obtain ⟨A, cA, rfl, hcA, hC⟩ := hV.sty
  obtain ⟨ad, rfl, x0, x1, x2, x3, x4, x5⟩ := at_T52 (Kd.C_below (Kd.C_below hC hB) (hBX.below)) it.f1 hnd.1 hnd.2
  obtain ⟨st, hst⟩ : ∃ st, rd_T52 S.styles it.f1 = st := ⟨_, rfl⟩
  rw [hst] at x0 x1 x2 x3 x4 x5
  have hstd : S.styles.getD it.f1.toNat z52 = st := hst
  have HV1 := Aside0.mk (hV.okX hBX.below)
  have HB1 := Aside0.mk (below_step hB hBX.below)
  have cp := blk_cell hBX.ptr 0
  have ci1 := blk_cell hBX.itm 1
  have cn := blk_cell hBX.num 0
  simp only [itmC, List.getElem?_toArray, List.getElem?_cons_zero, List.getElem?_cons_succ] at cp ci1 cn
  obtain ⟨hc0, hc1, hc2, hc3, hc4, hc5, hc6, hc7, hc8, hc9, hc10, hc11, hc12, hc13, hc14, hc15, hcf⟩ := sp_cells HV1.out.blk
  have HBX := Aside0.mk hBX
  have HND := Aside0.mk hnd
  have n1 := hnd.1
  have n2 := hnd.2
  have HST := Aside0.mk hstd
  have HCA := Aside0.mk hC
  have HHB := Aside0.mk hB
  have HHV := Aside0.mk hV
  have HK := Aside0.mk hok
  have HL := Aside0.mk hl
  have HP := Aside0.mk hp
  have HN := Aside0.mk hn
  have HG := Aside0.mk hG
  have HC := Aside0.mk hc
  have HUS := Aside0.mk hus
  clear hBX hst hstd hC hV hB hok hl hp hn hG hc hus hnd
  have hga : ∀ (o : Obj) (j : Nat), (w1.alloc o).cell? ⟨g, j, none⟩ = w1.cell? ⟨g, j, none⟩ := fun o j => World.cell?_alloc_lt w1 o ⟨g, j, none⟩ HV1.out.lt
  have ha0 : ∀ (o : Obj) (j : Nat), (w1.alloc o).cell? ⟨w.heap.size, j, none⟩ = w1.cell? ⟨w.heap.size, j, none⟩ := fun o j => World.cell?_alloc_lt w1 o ⟨w.heap.size, j, none⟩ (blk_lt HBX.out.ptr)
  have ha1 : ∀ (o : Obj) (j : Nat), (w1.alloc o).cell? ⟨w.heap.size + 1, j, none⟩ = w1.cell? ⟨w.heap.size + 1, j, none⟩ := fun o j => World.cell?_alloc_lt w1 o ⟨w.heap.size + 1, j, none⟩ (blk_lt HBX.out.itm)
  have ha2 : ∀ (o : Obj) (j : Nat), (w1.alloc o).cell? ⟨w.heap.size + 1 + 1, j, none⟩ = w1.cell? ⟨w.heap.size + 1 + 1, j, none⟩ := fun o j => World.cell?_alloc_lt w1 o ⟨w.heap.size + 1 + 1, j, none⟩ (blk_lt HBX.out.num)
  have y0 : ∀ o : Obj, (w1.alloc o).cell? (ad.add (it.f1.toNat * 6)) = some (.int .u8 st.f0) := fun o => (World.cell?_alloc_lt w1 o _ (World.block_lt_of_cell? _ _ x0)).trans x0
  have y1 := fun o : Obj => (World.cell?_alloc_lt w1 o _ (World.block_lt_of_cell? _ _ x1)).trans x1
  have y2 := fun o : Obj => (World.cell?_alloc_lt w1 o _ (World.block_lt_of_cell? _ _ x2)).trans x2
  have y3 := fun o : Obj => (World.cell?_alloc_lt w1 o _ (World.block_lt_of_cell? _ _ x3)).trans x3
  have y4 := fun o : Obj => (World.cell?_alloc_lt w1 o _ (World.block_lt_of_cell? _ _ x4)).trans x4
  have y5 := fun o : Obj => (World.cell?_alloc_lt w1 o _ (World.block_lt_of_cell? _ _ x5)).trans x5
  go_region
  clear hga ha0 ha1 ha2 y0 y1 y2 y3 y4 y5 x0 x1 x2 x3 x4 x5 cp ci1 cn hc0 hc1 hc2 hc3 hc4 hc5 hc6 hc7 hc8 hc9 hc10 hc11 hc12 hc13 hc14 hc15 hcf n1 n2
  obtain ⟨b, hbd⟩ : ∃ b, b = w1.heap.size := ⟨_, rfl⟩
  obtain ⟨w2, hw2⟩ : ∃ w2, w2 = (w1.alloc (.cells #[.int .i64 item, .int .u8 st.f0, .int .u8 st.f1, .int .u8 st.f2, .int .u8 st.f3, .int .i64 st.f4, .int .i64 st.f5, .int .i64 0] tOpn)).drew := ⟨_, rfl⟩
  rw [← hw2, ← hbd]
  have hb12 : Below w1.heap.size w1 w2 := by rw [hw2]; exact below_drew1 (below_alloc (Below.refl _ _) _)
  have hbw2 : Below w.heap.size w w2 := below_step HBX.out.below hb12
  have hbk : w2.heap[b]? = some (.cells (opnC ⟨item, st, 0⟩).toArray tOpn (0, 0)) := by rw [hw2, hbd]; exact blk_drew (blk_new w1 _)
  have hbge : w.heap.size + 3 = b := by rw [hbd]; exact HBX.out.size.symm
  have hsz2 : w2.heap.size = b + 1 := by rw [hw2, hbd]; simp
  have HLO := Aside0.mk (show Loc w2 g (okX ok w w2) S vn b 0 ⟨item, st, 0⟩ none from ⟨rfl, hbk, by have := HHV.out.lt; omega, fun h => by rcases h.2 with h1 | h1 <;> omega⟩)
  have HV2 := Aside0.mk (HHV.out.okX hbw2)
  have HB2 := Aside0.mk (below_step HHB.out hbw2)
  have HW2 := Aside0.mk hbw2
  have HBG := Aside0.mk hbge
  have HSZ := Aside0.mk hsz2
  have HP2 := Aside0.mk (blk_below HBX.out.ptr hb12)
  have HN2 := Aside0.mk (blk_below HBX.out.num hb12)
  have cp := blk_cell HP2.out 0
  have cn := blk_cell HN2.out 0
  simp only [List.getElem?_toArray, List.getElem?_cons_zero] at cp cn
  have HUST := Aside0.mk (HUS.out st (by rw [← HST.out, List.getD_eq_getElem?_getD, List.getElem?_eq_getElem (by have := HND.out; omega)]; exact List.getElem_mem _))
  clear hw2 hbd hb12 hbw2 hbk hbge hsz2
  go_wp2
  go_cut [31] (fun v31 wx => v31 = .tuple #[] ∧ ∃ vl3 vp3, Aside0 (SpV w0 wx g (okX ok w w2) ((S.enter ⟨item, st, 0⟩ S.inner).1.upd ⟨item, st, (S.enter ⟨item, st, 0⟩ S.inner).2⟩ none) (.slice (some ad) S.styles.length cA) vo vl3 vp3 vn) ∧ Aside0 (Loc wx g (okX ok w w2) ((S.enter ⟨item, st, 0⟩ S.inner).1.upd ⟨item, st, (S.enter ⟨item, st, 0⟩ S.inner).2⟩ none) vn b 0 ⟨item, st, (S.enter ⟨item, st, 0⟩ S.inner).2⟩ none) ∧ Aside0 (Below w0.heap.size w0 wx) ∧ Aside0 (Kp w2 wx g (fun k => okX ok w w2 k ∨ k = b)))
  case first =>
    go_region_with (first
      | (go_at_call 39; refine (inner_calls w0 _ g _ S _ vo vl vp vn HV2.out.drew HN.out).mono ?_; rintro e w3 ⟨rfl, rfl⟩)
      | (go_at_call 38; refine (enter_calls w0 _ g _ S _ vo vl vp vn b 0 ⟨item, st, 0⟩ none S.inner HV2.out.drew (HLO.out.below (below_drew1 (Below.refl _ _))) (below_drew1 HB2.out) (by have := HHB.out.size; have := HBG.out; omega) (okX_fresh HK.out HW2.out.size) HUST.out (HG.out.below (below_drew1 HB2.out)) (Nat.le_trans HL.out (by decide)) (by rw [HP.out]; exact Nat.le_trans HL.out (by decide)) ⟨HC.out.1, by have := HC.out.2; omega⟩).mono ?_; rintro e w3 ⟨rfl, ⟨vl3, vp3, hv, hl⟩, hb, hk⟩; have HV3 := Aside0.mk hv; have HL3 := Aside0.mk hl; have HB3 := Aside0.mk hb; have HK3 := Aside0.mk (Kp.drewL hk); clear hv hl hb hk))
    all_goals (go_wp2; go_meet; exact ⟨rfl, _, _, HV3, HL3, HB3, HK3⟩)
  case rest =>
    obtain ⟨rfl, vl3, vp3, HV3, HL3, HB3, HK3⟩ := hcut
    obtain ⟨w3, hw3⟩ : ∃ w3, w3 = wc := ⟨_, rfl⟩
    subst hw3
    have hgn := HHV.out.lt
    have hp3 := HK3.out.2 _ _ HP2.out (by omega) (.inl (okX_not HBG.out (by rw [HSZ.out]; omega) (by omega) (by have := HBG.out; omega)))
    have hn3 := HK3.out.2 _ _ HN2.out (by omega) (.inl (okX_not HBG.out (by rw [HSZ.out]; omega) (by omega) (by have := HBG.out; omega)))
    clear cp cn hgn
    have HP3 := Aside0.mk hp3
    have HN3 := Aside0.mk hn3
    have cp := blk_cell hp3 0
    simp only [List.getElem?_toArray, List.getElem?_cons_zero] at cp
    obtain ⟨hc0, hc1, hc2, hc3, hc4, hc5, hc6, hc7, hc8, hc9, hc10, hc11, hc12, hc13, hc14, hc15, hcf⟩ := sp_cells HV3.out.blk
    clear hp3 hn3
    go_wp2
    clear cp hc0 hc1 hc2 hc3 hc4 hc5 hc6 hc7 hc8 hc9 hc10 hc11 hc12 hc13 hc14 hc15 hcf
    have HOL := Aside0.mk (show S.opn.length ≤ 1000000000000 from Nat.le_trans HN.out (by decide))
    refine start_ (n := 11) (S := fun w' => w'.heap[g]? = some (.cells (spC ((S.enter ⟨item, st, 0⟩ S.inner).1.upd ⟨item, st, (S.enter ⟨item, st, 0⟩ S.inner).2⟩ none) (.slice (some ad) S.styles.length cA) vo vl3 vp3 vn) tSp (0, 0)) ∧ w'.heap[w.heap.size]? = some (.cells #[.pointer (some ⟨g, 0, none⟩)] 61 (0, 0)) ∧ w'.heap[b]? = some (.cells (opnC ⟨item, st, (S.enter ⟨item, st, 0⟩ S.inner).2⟩).toArray tOpn (0, 0))) (ds := [10]) #[false, false, false, false, false, false, false, false, false, false, false] (by kernel_rfl) rfl rfl ⟨HV3.out.drew.blk, blk_drew HP3.out, blk_drew HL3.out.2.1⟩ (fun hHeld => ?_)
    refine with_tabW item_open.tab5 item_open.bits5 (fun HT_ HW_ => ?_)
    refine take_ (i := 0) (N := some 32) (v := ?_) (a' := ?_) #[true, false, false, false, false, false, false, false, false, false, false] rfl rfl (take_ofW HT_.out HW_.out (by kernel_rfl)) (fun _ _ _ h => h) (Or.inl ⟨by rfl, ?_⟩) hHeld ?_ ?_
    rotate_left
    · rintro w' ⟨s0, s1, s2⟩
      obtain ⟨hc0, hc1, hc2, hc3, hc4, hc5, hc6, hc7, hc8, hc9, hc10, hc11, hc12, hc13, hc14, hc15, hcf⟩ := sp_cells s0
      have cp := blk_cell s1 0
      obtain ⟨hx0, hx1, hx2, hx3, hx4, hx5, hx6, hx7⟩ := opn_cells s2
      simp only [List.getElem?_toArray, List.getElem?_cons_zero] at cp
      go_simp
      with_reducible rfl
    rotate_left
    · simp only [Act.put, List.setIfInBounds_toArray, List.set_cons_zero, List.set_cons_succ, i64_w, i32_w]
      rfl
    refine take_ (i := 1) (N := some 33) (v := ?_) (a' := ?_) #[true, true, false, false, false, false, false, false, false, false, false] rfl rfl (take_ofW HT_.out HW_.out (by kernel_rfl)) (fun _ _ _ h => h) (Or.inl ⟨by rfl, ?_⟩) hHeld ?_ ?_
    rotate_left
    · rintro w' ⟨s0, s1, s2⟩
      obtain ⟨hc0, hc1, hc2, hc3, hc4, hc5, hc6, hc7, hc8, hc9, hc10, hc11, hc12, hc13, hc14, hc15, hcf⟩ := sp_cells s0
      have cp := blk_cell s1 0
      obtain ⟨hx0, hx1, hx2, hx3, hx4, hx5, hx6, hx7⟩ := opn_cells s2
      simp only [List.getElem?_toArray, List.getElem?_cons_zero] at cp
      go_simp
      with_reducible rfl
    rotate_left
    · simp only [Act.put, List.setIfInBounds_toArray, List.set_cons_zero, List.set_cons_succ, i64_w, i32_w]
      rfl
    refine pure_ (i := 2) (N := some 34) (v := ?_) (a' := ?_) #[true, true, true, false, false, false, false, false, false, false, false] rfl rfl (any_of HT_.out (by kernel_rfl)) (fun _ _ _ h => h) (Or.inl ⟨by rfl, ?_⟩) ?_ ?_
    rotate_left
    · intro w'
      go_simp
      with_reducible rfl
    rotate_left
    · simp only [Act.put, List.setIfInBounds_toArray, List.set_cons_zero, List.set_cons_succ, i64_w, i32_w]
      rfl
    refine pure_ (i := 3) (N := some 35) (v := ?_) (a' := ?_) #[true, true, true, true, false, false, false, false, false, false, false] rfl rfl (any_of HT_.out (by kernel_rfl)) (fun _ _ _ h => h) (Or.inl ⟨by rfl, ?_⟩) ?_ ?_
    rotate_left
    · intro w'
      go_simp
      with_reducible rfl
    rotate_left
    · simp only [Act.put, List.setIfInBounds_toArray, List.set_cons_zero, List.set_cons_succ, i64_w, i32_w]
      rfl
    refine take_ (i := 4) (N := some 36) (v := ?_) (a' := ?_) #[true, true, true, true, true, false, false, false, false, false, false] rfl rfl (take_ofW HT_.out HW_.out (by kernel_rfl)) (fun _ _ _ h => h) (Or.inl ⟨by rfl, ?_⟩) hHeld ?_ ?_
    rotate_left
    · rintro w' ⟨s0, s1, s2⟩
      obtain ⟨hc0, hc1, hc2, hc3, hc4, hc5, hc6, hc7, hc8, hc9, hc10, hc11, hc12, hc13, hc14, hc15, hcf⟩ := sp_cells s0
      have cp := blk_cell s1 0
      obtain ⟨hx0, hx1, hx2, hx3, hx4, hx5, hx6, hx7⟩ := opn_cells s2
      simp only [List.getElem?_toArray, List.getElem?_cons_zero] at cp
      go_simp
      with_reducible rfl
    rotate_left
    · simp only [Act.put, List.setIfInBounds_toArray, List.set_cons_zero, List.set_cons_succ, i64_w, i32_w]
      rfl
    refine take_ (i := 5) (N := some 37) (v := ?_) (a' := ?_) #[true, true, true, true, true, true, false, false, false, false, false] rfl rfl (take_ofW HT_.out HW_.out (by kernel_rfl)) (fun _ _ _ h => h) (Or.inl ⟨by rfl, ?_⟩) hHeld ?_ ?_
    rotate_left
    · rintro w' ⟨s0, s1, s2⟩
      obtain ⟨hc0, hc1, hc2, hc3, hc4, hc5, hc6, hc7, hc8, hc9, hc10, hc11, hc12, hc13, hc14, hc15, hcf⟩ := sp_cells s0
      have cp := blk_cell s1 0
      obtain ⟨hx0, hx1, hx2, hx3, hx4, hx5, hx6, hx7⟩ := opn_cells s2
      simp only [List.getElem?_toArray, List.getElem?_cons_zero] at cp
      go_simp
      with_reducible rfl
    rotate_left
    · simp only [Act.put, List.setIfInBounds_toArray, List.set_cons_zero, List.set_cons_succ, i64_w, i32_w]
      rfl
    refine one_ (i := 6) (N := some 38) #[true, true, true, true, true, true, true, false, false, false, false] rfl rfl (one_of HT_.out (by kernel_rfl)) (by decide) (fun K hK => ?_)
    refine value_ (w1 := ?_) (v := ?_) (by rfl) rfl ?_ ?_
    rotate_left 2
    · go_simp
      constructor
      · rfl
      · rfl
    refine hK.out _ _ ⟨blk_alloc (o := .cells _ _ _) HV3.out.drew.blk _, blk_alloc (blk_drew HP3.out) _, blk_alloc (blk_drew HL3.out.2.1) _⟩ (fun hHeld => ?_)
    clear hK K
    refine norm_ (a' := ?_) ?_ ?_
    rotate_left
    · show Act.put _ (some 38) _ = _
      simp only [Act.put, List.setIfInBounds_toArray, List.set_cons_zero, List.set_cons_succ, i64_w, i32_w]
      rfl
    refine one_ (i := 7) (N := some 39) #[true, true, true, true, true, true, true, true, false, false, false] rfl rfl (one_of HT_.out (by kernel_rfl)) (by decide) (fun K hK => ?_)
    refine app_opn rfl HV3.out.drew (⟨item, st, (S.enter ⟨item, st, 0⟩ S.inner).2⟩ : Opn) (.tmp 36) (.tmp 38) 63 rfl Tryd.underlying63 rfl rfl rfl (below_drew1 HB3.out) (fun k hk => okX_fresh HK.out HW2.out.size k (Nat.le_trans HK3.out.1 hk)) (by rw [upd_none, (Sp.enter_parts S _ S.inner).2.2.2.2]; exact HOL.out) ?_
    intro A1 c1 w4 hb hv hbe hkp
    have hp4 := hkp.2 _ _ (blk_drew HP3.out) (by have := HHV.out.lt; omega) (.inr (by intro c q hq e; injection e with _ e2; subst e2; revert hq; decide))
    have hl4 := hkp.2 _ _ (blk_drew HL3.out.2.1) HL3.out.2.2.1 (.inl HL3.out.2.2.2)
    refine hK.out _ _ ⟨hb, hp4, hl4⟩ (fun hHeld => ?_)
    clear hK K
    refine norm_ (a' := ?_) ?_ ?_
    rotate_left
    · show Act.put _ (some 39) _ = _
      simp only [Act.put, List.setIfInBounds_toArray, List.set_cons_zero, List.set_cons_succ, i64_w, i32_w]
      rfl
    refine pure_ (i := 8) (N := some 40) (v := ?_) (a' := ?_) #[true, true, true, true, true, true, true, true, true, false, false] rfl rfl (any_of HT_.out (by kernel_rfl)) (fun _ _ _ h => h) (Or.inl ⟨by rfl, ?_⟩) ?_ ?_
    rotate_left
    · intro w'
      go_simp
      with_reducible rfl
    rotate_left
    · simp only [Act.put, List.setIfInBounds_toArray, List.set_cons_zero, List.set_cons_succ, i64_w, i32_w]
      rfl
    refine pure_ (i := 9) (N := some 41) (v := ?_) (a' := ?_) #[true, true, true, true, true, true, true, true, true, true, false] rfl rfl (any_of HT_.out (by kernel_rfl)) (fun _ _ _ h => h) (Or.inl ⟨by rfl, ?_⟩) ?_ ?_
    rotate_left
    · intro w'
      go_simp
      with_reducible rfl
    rotate_left
    · simp only [Act.put, List.setIfInBounds_toArray, List.set_cons_zero, List.set_cons_succ, i64_w, i32_w]
      rfl
    refine last_ (i := 10) (N := none) #[true, true, true, true, true, true, true, true, true, true, true] rfl rfl (one_of HT_.out (by kernel_rfl)) (by decide) (fun K hK => ?_)
    refine skip_ (w1 := ?_) (by rfl) rfl ?_ ?_
    rotate_left
    · obtain ⟨hc0, hc1, hc2, hc3, hc4, hc5, hc6, hc7, hc8, hc9, hc10, hc11, hc12, hc13, hc14, hc15, hcf⟩ := sp_cells hb
      go_simp
      rfl
    refine hK.out _ _ ?_
    clear hK K
    refine done_ (done_of HT_.out (by kernel_rfl)) ?_
    have cp4 := blk_cell hp4 0
    simp only [List.getElem?_toArray, List.getElem?_cons_zero] at cp4
    obtain ⟨hc0, hc1, hc2, hc3, hc4, hc5, hc6, hc7, hc8, hc9, hc10, hc11, hc12, hc13, hc14, hc15, hcf⟩ := sp_cells hb
    have HV4 := Aside0.mk (hv.set0 15 (.bool true) (S' := S.open_ it item) (by rw [open_eq it S item st HST.out]; rfl) (by rw [open_eq it S item st HST.out]) (by rw [open_eq it S item st HST.out]) (by rw [open_eq it S item st HST.out]) (by rw [open_eq it S item st HST.out]) (by rw [open_eq it S item st HST.out]))
    have HB4 := Aside0.mk (hbe.setCell (p := ⟨g, 15, none⟩) (by exact HHV.out.new) (.bool true))
    have HK4 := Aside0.mk hkp
    clear hp4 hl4 hb hv hbe hkp
    go_wp2
    go_end0
    exact ⟨rfl, ⟨_, _, _, _, HV4.out.mono (fun k hk => hk.1)⟩, HB4.out, ((((HK3.out.ofB HW2.out (by have := HBG.out; omega)).drew).trans (HK4.out.mono (fun k hk => hk.1))).set_ _ _).set_ _ _⟩
end Go.Proofs.YtlfpjlpaiaonkaaDoor.Sp

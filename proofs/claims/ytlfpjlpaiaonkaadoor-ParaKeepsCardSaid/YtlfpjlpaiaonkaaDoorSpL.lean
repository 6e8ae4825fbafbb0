/- Layer 13's splitter: item, a break. -/
import Derived.Test.YtlfpjlpaiaonkaaDoorSpK
import Derived.Deep.RegionWith
import Derived.Outline
namespace Go.Proofs.YtlfpjlpaiaonkaaDoor.Sp
open Go.RowKit Go.Shelf Go.Proofs.YtlfpjlpaiaonkaaDoorW.PrintWords Go.Proofs.YtlfpjlpaiaonkaaDoorW.PrintLast Go.Proofs.YtlfpjlpaiaonkaaDoorW.PrintMore Go.Proofs.YtlfpjlpaiaonkaaDoorH Go.Proofs.YtlfpjlpaiaonkaaDoor.P Go.Proofs.YtlfpjlpaiaonkaaDoor.Mp
attribute [local go_sem] Oper.semAt_some
set_option linter.unusedVariables false
set_option linter.unusedSimpArgs false
/-- The closing controls of all open boxes. -/
def Sp.puts (S : Sp) (os : List Opn) (item : Int) : Sp := os.foldl (fun S o => S.put (ctlR o.f1.f2 o.f1.f1).2 item) S
def Sp.brkAll (S : Sp) (i : Int) : Sp := Sp.begin_ (Sp.end_ { (S.puts S.opn.reverse i).close with brk := i })
theorem Sp.puts_snoc (S : Sp) (os : List Opn) (o : Opn) (item : Int) : S.puts (os ++ [o]) item = (S.puts os item).put (ctlR o.f1.f2 o.f1.f1).2 item := by simp [Sp.puts]
theorem Sp.puts_parts (os : List Opn) (item : Int) : ∀ S : Sp, (S.puts os item).opn = S.opn ∧ (S.puts os item).styles = S.styles ∧ (S.puts os item).block = S.block ∧ (S.puts os item).count = S.count ∧ (S.puts os item).out = S.out ∧ (S.puts os item).L.length ≤ S.L.length + 2 * os.length ∧ (S.puts os item).pieces.length + S.L.length = (S.puts os item).L.length + S.pieces.length := by
  induction os with
  | nil => intro S; exact ⟨rfl, rfl, rfl, rfl, rfl, Nat.le_refl _, Nat.add_comm _ _⟩
  | cons o os ih =>
    intro S
    obtain ⟨h1, h2, h3, h4, h5, h6, h7⟩ := ih (S.put (ctlR o.f1.f2 o.f1.f1).2 item)
    have hl := (ctlR_len o.f1.f2 o.f1.f1).2
    have hL : (S.put (ctlR o.f1.f2 o.f1.f1).2 item).L.length = S.L.length + (ctlR o.f1.f2 o.f1.f1).2.length := by simp [Sp.put]
    have hP : (S.put (ctlR o.f1.f2 o.f1.f1).2 item).pieces.length = S.pieces.length + (ctlR o.f1.f2 o.f1.f1).2.length := by simp [Sp.put]
    rw [hL, hP] at h7
    rw [hL] at h6
    refine ⟨h1, h2, h3, h4, h5, ?_, ?_⟩
    · show ((S.put (ctlR o.f1.f2 o.f1.f1).2 item).puts os item).L.length ≤ _
      rw [List.length_cons]
      omega
    · show ((S.put (ctlR o.f1.f2 o.f1.f1).2 item).puts os item).pieces.length + _ = ((S.put (ctlR o.f1.f2 o.f1.f1).2 item).puts os item).L.length + _
      omega
theorem Sp.close_parts (S : Sp) : S.close.opn = S.opn ∧ S.close.block = S.block ∧ S.close.count = S.count ∧ S.close.out = S.out ∧ S.close.L.length ≤ S.L.length + 1 ∧ S.close.pieces.length + S.L.length = S.close.L.length + S.pieces.length := by
  unfold Sp.close
  split
  · exact ⟨rfl, rfl, rfl, rfl, by simp [Sp.put], by simp [Sp.put]; omega⟩
  · exact ⟨rfl, rfl, rfl, rfl, by omega, by omega⟩
theorem backs_all (xs : List Opn) : (backs xs xs.length).map Prod.snd = xs.reverse := by
  refine List.ext_getElem (by simp [backs]) (fun i h1 h2 => ?_)
  simp [backs] at h1 h2 ⊢
  rw [List.getElem?_eq_getElem (by omega)]
  rfl
section
variable {w w1 w2 : World} {g : Nat} {ok : Nat → Prop} {row : Option Nat}
theorem Kp.keepsFrom {c : Array Value} {q : TypeId} {z : Nat × Nat} (h : Kp w w1 g ok) (hg : w.heap[g]? = some (.cells c q z)) (B : Nat) : KeepsFrom B w w1 :=
  ⟨h.1, fun k o _ hk ho => h.2 k o hk (by
    rintro rfl
    rw [hg] at hk
    injection hk with hk
    subst hk
    simp [Obj.isCells] at ho) (.inr fun c q _ e => by rw [e] at ho; simp [Obj.isCells] at ho)⟩
theorem Kp.own (h : Kp w w1 g ok) (hg : w1.grownBy w2 row) (hr : ∀ r, row = some r → w.heap.size ≤ r) : Kp w w2 g ok :=
  ⟨Nat.le_trans h.1 hg.size, fun k o hk hne ho => by
    have h1 := h.2 k o hk hne ho
    refine (hg.block k (blk_lt h1) (fun e => ?_)).trans h1
    have := hr k e.symm
    have := blk_lt hk
    omega⟩
end
/-- An activation by name. -/
theorem act_name {P : Program} {c : Code} {Q : Exit → Act → World → Prop} {a : Act} {w : World} (h : ∀ a0, a0 = a → c.wp P Q a0 w) : c.wp P Q a w := h a rfl
/-- Between two rounds. -/
structure Mid (w0 w w2 : World) (g : Nat) (ok : Nat → Prop) (S : Sp) (vs vo vn : Value) (item : Int) (Bs : Nat) (pre : List (Bk S.opn)) (W : World) : Prop where
  sp : ∃ vl vp, SpV w0 W g (okX ok w w2) (S.puts (pre.map fun x => x.1.2) item) vs vo vl vp vn
  below : Below w0.heap.size w0 W
  kp : Kp w2 W g (okX ok w w2)
  box : W.heap[Bs]? = some (.cells #[vn] 63 (0, 0))
  ptr : W.heap[w.heap.size]? = some (.cells #[.pointer (some ⟨g, 0, none⟩)] 61 (0, 0))
  num : W.heap[w.heap.size + 1 + 1]? = some (.cells #[.int .i64 item] 3 (0, 0))
  mem : ∀ x, x ∈ pre → True
section
variable {w0 w w2 W W' : World} {g : Nat} {ok : Nat → Prop} {S : Sp} {vs vo vn : Value} {item : Int} {Bs : Nat} {pre : List (Bk S.opn)} {row : Option Nat}
theorem Mid.own (h : Mid w0 w w2 g ok S vs vo vn item Bs pre W) (hs : w0.heap.size ≤ w2.heap.size) (hg : W.grownBy W' row) (hr : ∀ r, row = some r → w2.heap.size ≤ r ∧ ∃ o : Obj, W.heap[r]? = some o ∧ o.isCells = false) : Mid w0 w w2 g ok S vs vo vn item Bs pre W' :=
  have hr2 := fun r e => (hr r e).2
  ⟨let ⟨_, _, hv⟩ := h.sp; ⟨_, _, hv.own hg hr2⟩, h.below.grown hg h.below.size (fun k e => Nat.le_trans hs (hr k e).1), h.kp.own hg (fun r e => (hr r e).1), blk_own h.box hg hr2, blk_own h.ptr hg hr2, blk_own h.num hg hr2, h.mem⟩
theorem Mid.down (h : Mid w0 w w2 g ok S vs vo vn item Bs pre W) (hb : Below W.heap.size W W') : Mid w0 w w2 g ok S vs vo vn item Bs pre W' :=
  ⟨let ⟨_, _, hv⟩ := h.sp; ⟨_, _, hv.below hb⟩, below_step h.below hb, h.kp.below hb, blk_below h.box hb, blk_below h.ptr hb, blk_below h.num hb, h.mem⟩
theorem Mid.rowP (h : Mid w0 w w2 g ok S vs vo vn item Bs pre W) : RowP w0 (okX ok w w2) vn S.opn Bs W :=
  ⟨let ⟨_, _, hv⟩ := h.sp; by have := hv.opn; rwa [(Sp.puts_parts _ _ S).1] at this, h.box⟩
end
set_option maxHeartbeats 8000000 in
set_option maxRecDepth 100000 in
theorem item_break (w0 w : World) (g : Nat) (ok : Nat → Prop) (S : Sp) (vs vo vl vp vn : Value) (it : Itm) (item : Int) (hk4 : it.f0 = 4) (hV : SpV w0 w g ok S vs vo vl vp vn) (hB : Below w0.heap.size w0 w) (hok : ∀ k, w.heap.size ≤ k → ok k) (hl : S.L.length ≤ 10000000000) (hp : S.pieces.length = S.L.length)
    (hn : S.opn.length ≤ 10000000000) (hG : LaidW w0) (hu : u8 S.block.f1) (huo : ∀ o, o ∈ S.opn → u8 o.f1.f1 ∧ u8 o.f1.f2) (ho : S.out.length ≤ 100000000000) (hc : 0 ≤ S.count ∧ S.count ≤ 10000000000) :
    Calls Tryd.prog 23 #[.pointer (some ⟨g, 0, none⟩), .agg (itmC it), .int .i64 item] w fun e' w' => e' = .returned (.tuple #[]) ∧ (∃ vo' vl' vp' vn', SpV w0 w' g ok (S.brkAll item) vs vo' vl' vp' vn') ∧ Below w0.heap.size w0 w' ∧ Kp w w' g ok := by
  unfold itmC
  rw [hk4]
  refine (callsIn_wide (n := 5)).1 ?_
  refine callsIn_of_wp_marks Tryd.func23 rfl trivial ?_ rfl
  simp only [Tryd.ntmps23, List.size_toArray, List.length_cons, List.length_nil, Nat.reduceAdd, Nat.reduceSub, Array.replicate_succ, Array.replicate_zero, List.push_toArray, List.append_toArray, List.nil_append, List.cons_append]
  refine wpIn_wide.2 ?_
  obtain ⟨An, cn', rfl⟩ := Kd.R_slice hV.opn
  go_upto_region 16 with (fail)
  obtain ⟨w1, hw1⟩ : ∃ w1, w1 = ((w.alloc (.cells #[.pointer (some ⟨g, 0, none⟩)] 61)).alloc (.cells #[.int .u8 4, .int .i64 it.f1, .bool it.f2, .int .i32 it.f3, .int .i64 it.f4] 47)).alloc (.cells #[.int .i64 item] 3) := ⟨_, rfl⟩
  rw [← hw1]
  have hBX : Boxes w w1 g ⟨4, it.f1, it.f2, it.f3, it.f4⟩ item := by rw [hw1]; exact boxes_mk w g ⟨4, it.f1, it.f2, it.f3, it.f4⟩ item
  clear hw1
  have HV1 := Aside0.mk (hV.okX hBX.below)
  have HB1 := Aside0.mk (below_step hB hBX.below)
  have cp := blk_cell hBX.ptr 0
  have cn := blk_cell hBX.num 0
  simp only [List.getElem?_toArray, List.getElem?_cons_zero] at cp cn
  obtain ⟨hc0, hc1, hc2, hc3, hc4, hc5, hc6, hc7, hc8, hc9, hc10, hc11, hc12, hc13, hc14, hc15, hcf⟩ := sp_cells HV1.out.blk
  have HBX := Aside0.mk hBX
  have HHB := Aside0.mk hB
  have HHV := Aside0.mk hV
  have HK := Aside0.mk hok
  have HL := Aside0.mk hl
  have HP := Aside0.mk hp
  have HN := Aside0.mk hn
  have HG := Aside0.mk hG
  have HU := Aside0.mk hu
  have HUO := Aside0.mk huo
  have HO := Aside0.mk ho
  have HCT := Aside0.mk hc
  clear hBX hV hB hok hl hp hn hG hu huo ho hc
  go_wp2_with (go_at_call 41; refine (backward_calls _ _ _ _).mono ?_; rintro e w2 ⟨rfl, hw2⟩)
  have hs12 : Below w1.heap.size w1 w2 := by rw [hw2]; exact (Below.refl _ w1).alloc (Nat.le_refl _) _
  have hs02 : Below w.heap.size w w2 := below_step HBX.out.below hs12
  have hbs : w2.heap[w1.heap.size]? = some (.cells #[.slice An S.opn.length cn'] 63 (0, 0)) := by rw [hw2]; exact blk_new w1 _
  have hsz : w2.heap.size = w1.heap.size + 1 := by rw [hw2]; simp
  rw [← hw2]
  have HM0 : Mid w0 w w2 g ok S vs vo (.slice An S.opn.length cn') item w1.heap.size [] w2 := ⟨⟨_, _, HHV.out.okX hs02⟩, below_step HHB.out hs02, Kp.refl _ _ _, hbs, blk_below HBX.out.ptr hs12, blk_below HBX.out.num hs12, fun _ _ => trivial⟩
  have HS2 := Aside0.mk hs02
  have HSB := Aside0.mk (HM0.below.size)
  clear hw2 hs12 hs02 hbs cp cn hc0 hc1 hc2 hc3 hc4 hc5 hc6 hc7 hc8 hc9 hc10 hc11 hc12 hc13 hc14 hc15 hcf
  refine act_name (fun a0 ha0 => ?_)
  refine (wpIn_wide (n := 5)).1 ?_
  refine wpIn_rangeFunc_ownH (F := Fence.wide) (encs := encB S.opn) rfl (by decide) (gf := 52) (lb := #[.pointer (some ⟨w1.heap.size, 0, none⟩)]) (by rw [ha0]; rfl) trivial (enters_of Tryd.func52 (by kernel_rfl) rfl)
    (back_stops w0 w2 (okX ok w w2) _ S.opn w1.heap.size _ (by decide) HN.out HM0.rowP) (fun h k r => k (h r)) (fun W l o o' hl h1 h2 _ hr => hr.own (grownBy_putObj' W l o') (fun r e => by cases e; exact ⟨o, h1, h2⟩)) (Below.refl _ _) (fun _ => rfl)
    (Mid w0 w w2 g ok S vs vo (.slice An S.opn.length cn') item w1.heap.size) (fun _ _ _ => False) (fun s W W' row hs hg hr => hs.own HSB.out hg hr) (fun _ _ _ _ _ hs _ _ => hs) HM0
    (fun x a' W => ∃ Bx, W.heap[Bx]? = some (.cells (opnC x.1.2).toArray tOpn (0, 0)) ∧ a' = { tmps := ((a0.tmps.setIfInBounds 105 (.int .i64 x.1.1)).setIfInBounds 106 (.agg (opnC x.1.2).toArray)).setIfInBounds 11 (.pointer (some ⟨Bx, 0, none⟩)), defers := [] })
    (fun x a' _ X Y row hs hg hr => let ⟨Bx, h1, h2⟩ := hs; ⟨Bx, blk_own h1 hg (fun r e => (hr r e).2), h2⟩) ?assign ?body ?done ?stop
  case assign =>
    rintro l pre x W K hi hK
    have HK2 := Aside0.mk hK
    clear hK
    rw [ha0]
    simp only [encB, opnC]
    gi_wp2
    refine HK2.out _ _ ((KeepsOthers.alloc _ _).from _) (fun r => r.below ((Below.refl _ W).alloc (Nat.le_refl _) _)) (hi.down ((Below.refl _ W).alloc (Nat.le_refl _) _)) ⟨W.heap.size, blk_new W _, ?_⟩
    simp only [ha0, List.setIfInBounds_toArray, List.set_cons_zero, List.set_cons_succ, opnC]
  case body =>
    rintro l pre x a' W hl hr hi ⟨Bx, hbx, rfl⟩ hlt
    rw [ha0]
    simp only [List.setIfInBounds_toArray, List.set_cons_zero, List.set_cons_succ]
    clear ha0
    obtain ⟨vl2, vp2, hv⟩ := hi.sp
    obtain ⟨hx0, hx1, hx2, hx3, hx4, hx5, hx6, hx7⟩ := opn_cells hbx
    have cp := blk_cell hi.ptr 0
    have cn := blk_cell hi.num 0
    simp only [List.getElem?_toArray, List.getElem?_cons_zero] at cp cn
    have HX := Aside0.mk (HUO.out x.1.2 x.2)
    have HVM := Aside0.mk hv
    have HI := Aside0.mk hi
    have HPP := Aside0.mk (Sp.puts_parts (pre.map fun x => x.1.2) item S)
    have HLT := Aside0.mk hlt
    have HBK := Aside0.mk (show Kp w2 W g (okX ok w w2) from hi.kp)
    have HFR := Aside0.mk (show ∀ k, W.heap.size ≤ k → okX ok w w2 k from fun k hk => okX_fresh HK.out HS2.out.size k (Nat.le_trans HBK.out.1 hk))
    have HLL : Aside0 (_ ∧ _) := Aside0.mk (show (S.puts (pre.map fun x => x.1.2) item).L.length + (ctlR x.1.2.f1.f2 x.1.2.f1.f1).2.length ≤ 1000000000000 ∧ (S.puts (pre.map fun x => x.1.2) item).pieces.length + (ctlR x.1.2.f1.f2 x.1.2.f1.f1).2.length ≤ 1000000000000 by
      have h1 := HPP.out.2.2.2.2.2.1
      have h2 := HPP.out.2.2.2.2.2.2
      have h3 := (ctlR_len x.1.2.f1.f2 x.1.2.f1.f1).2
      have := HL.out
      have := HN.out
      have := HP.out
      rw [List.length_map] at h1
      omega)
    clear hi hv hlt hbx hx0 hx1 hx4 hx5 hx6 hx7
    gi_wp2_with (first
      | (refine ⟨trivial, ?_⟩; gi_at_call 14; refine (CallsIn.inRound l (callsIn_wide.2 (ctl_calls _ _ _ HX.out.2 HX.out.1 (HG.out.below HI.out.below)))).mono ?_; rintro e w3 ⟨rfl, hd⟩; obtain ⟨nq, rfl⟩ := hd.out)
      | (refine ⟨trivial, ?_⟩; gi_at_call 37; refine (CallsIn.inRound l (callsIn_wide.2 (put_calls w0 _ g (okX ok w w2) _ vs vo vl2 vp2 _ _ (ctlR x.1.2.f1.f2 x.1.2.f1.f1).2 item (HVM.out.drewN nq) (pw_below_drewN HI.out.below nq) (fun k hk => HFR.out k hk) (ctl_dec _ _).2 HLL.out.1 HLL.out.2))).mono ?_; rintro e w4 ⟨rfl, ⟨vl3, vp3, hv3⟩, hb3, hk3⟩))
    have hkk := ((Kp.refl W g (okX ok w w2)).drewN nq).trans hk3
    have hgl := HHV.out.lt
    have hs1 := HBX.out.size
    have hno : ∀ k, w.heap.size ≤ k → k < w2.heap.size → ¬ okX ok w w2 k := fun k h1 h2 h3 => by rcases h3.2 with h | h <;> omega
    have hM4 : Mid w0 w w2 g ok S vs vo (.slice An S.opn.length cn') item w1.heap.size (pre ++ [x]) w4 := by
      refine ⟨⟨vl3, vp3, ?_⟩, hb3, HBK.out.trans hkk, ?_, ?_, ?_, fun _ _ => trivial⟩
      · rw [List.map_append]
        exact (Sp.puts_snoc S _ x.1.2 item) ▸ hv3
      · exact hkk.2 _ _ HI.out.box (by omega) (.inl (hno _ (by omega) (by omega)))
      · exact hkk.2 _ _ HI.out.ptr (by omega) (.inl (hno _ (by omega) (by omega)))
      · exact hkk.2 _ _ HI.out.num (by omega) (.inl (hno _ (by omega) (by omega)))
    exact ⟨hkk.keepsFrom HVM.out.blk _, fun _ => hM4.rowP, hM4⟩
  case done =>
    rintro D xs W hD hxs hi hK
    have hxr : xs.map (fun x => x.1.2) = S.opn.reverse := by
      rw [← backs_all, ← hxs, List.map_map]
      rfl
    obtain ⟨vl2, vp2, hv⟩ := hi.sp
    rw [hxr] at hv
    obtain ⟨q1, q2, q3, q4, q5, q6, q7⟩ := Sp.puts_parts S.opn.reverse item S
    obtain ⟨T, hT⟩ : ∃ T, S.puts S.opn.reverse item = T := ⟨_, rfl⟩
    rw [hT] at hv q1 q2 q3 q4 q5 q6 q7
    have hTB : S.brkAll item = Sp.begin_ (Sp.end_ { T.close with brk := item }) := by rw [← hT]; rfl
    rw [ha0]
    clear ha0
    have cp := blk_cell hi.ptr 0
    have cn := blk_cell hi.num 0
    simp only [List.getElem?_toArray, List.getElem?_cons_zero] at cp cn
    obtain ⟨hc0, hc1, hc2, hc3, hc4, hc5, hc6, hc7, hc8, hc9, hc10, hc11, hc12, hc13, hc14, hc15, hcf⟩ := sp_cells hv.blk
    have HVM := Aside0.mk hv
    have HI := Aside0.mk hi
    have HTB := Aside0.mk hTB
    have HQ := Aside0.mk (And.intro q1 (And.intro q3 (And.intro q4 (And.intro q5 (And.intro q6 q7)))))
    have HD := Aside0.mk hD
    have HDK := Aside0.mk hK
    clear hv hi hTB q1 q2 q3 q4 q5 q6 q7 hT hxr hxs hD hK
    have HFR := Aside0.mk (show ∀ k, W.heap.size ≤ k → okX ok w w2 k from fun k hk => okX_fresh HK.out HS2.out.size k (Nat.le_trans HI.out.kp.1 hk))
    obtain ⟨U, hU⟩ : ∃ U : Sp, { T.close with brk := item } = U := ⟨_, rfl⟩
    have HUB := Aside0.mk (show S.brkAll item = U.end_.begin_ by rw [← hU]; exact HTB.out)
    have HPN : Aside0 _ := Aside0.mk (And.intro HI.out.ptr (And.intro HI.out.num HDK.out))
    have HUP := Aside0.mk (show U.opn = S.opn ∧ U.block = S.block ∧ U.count = S.count ∧ U.out = S.out ∧ U.L.length ≤ 1000000000000 ∧ U.pieces.length = U.L.length by
      obtain ⟨q1, q3, q4, q5, q6, q7⟩ := HQ.out
      obtain ⟨c1, c2, c3, c4, c5, c6⟩ := T.close_parts
      rw [List.length_reverse] at q6
      have := HL.out
      have := HN.out
      have := HP.out
      rw [← hU]
      refine ⟨c1.trans q1, c2.trans q3, c3.trans q4, c4.trans q5, ?_, ?_⟩
      · show T.close.L.length ≤ _
        omega
      · show T.close.pieces.length = T.close.L.length
        omega)
    have HTL := Aside0.mk (show T.L.length ≤ 100000000000 ∧ T.pieces.length ≤ 100000000000 by
      obtain ⟨q1, q3, q4, q5, q6, q7⟩ := HQ.out
      rw [List.length_reverse] at q6
      have := HL.out
      have := HN.out
      have := HP.out
      omega)
    have HUX := Aside0.mk hU
    have hun : ∀ k, w.heap.size ≤ k → k < w2.heap.size → ¬ okX ok w w2 k := fun k h1 h2 h3 => by rcases h3.2 with h | h <;> omega
    have hgl := HHV.out.lt
    have hs1 := HBX.out.size
    have HKEEP := Aside0.mk (show ∀ {X Y : World}, Kp X Y g (okX ok w w2) → (X.heap[w.heap.size]? = some (.cells #[.pointer (some ⟨g, 0, none⟩)] 61 (0, 0)) ∧ X.heap[w.heap.size + 1 + 1]? = some (.cells #[.int .i64 item] 3 (0, 0)) ∧ X.heap[D]? = some (.deferred (some []))) → (Y.heap[w.heap.size]? = some (.cells #[.pointer (some ⟨g, 0, none⟩)] 61 (0, 0)) ∧ Y.heap[w.heap.size + 1 + 1]? = some (.cells #[.int .i64 item] 3 (0, 0)) ∧ Y.heap[D]? = some (.deferred (some []))) from fun hk hx =>
      ⟨hk.2 _ _ hx.1 (by omega) (.inl (hun _ (by omega) (by omega))), hk.2 _ _ hx.2.1 (by omega) (.inl (hun _ (by omega) (by omega))), hk.2 _ _ hx.2.2 (by have := HD.out; have := HS2.out.size; omega) (.inr fun _ _ _ e => by cases e)⟩)
    clear hU hun hgl hs1
    go_wp2_with (first
      | (go_at_call 24; refine (close_calls w0 _ g (okX ok w w2) T vs vo vl2 vp2 _ HVM.out HI.out.below HFR.out (by rw [HQ.out.2.1]; exact HU.out) (HG.out.below HI.out.below) HTL.out.1 HTL.out.2).mono ?_; rintro e w4 ⟨rfl, ⟨vl4, vp4, hv4⟩, hb4, hk4⟩; have HV4 := Aside0.mk hv4; have HB4 := Aside0.mk hb4; have HK4 := Aside0.mk hk4; have HPN4 := Aside0.mk (HKEEP.out hk4 HPN.out); clear hv4 hb4 hk4; clear cp cn hc0 hc1 hc2 hc3 hc4 hc5 hc6 hc7 hc8 hc9 hc10 hc11 hc12 hc13 hc14 hc15 hcf; have cp := blk_cell (HPN4.out.1) 0; have cn := blk_cell (HPN4.out.2.1) 0; simp only [List.getElem?_toArray, List.getElem?_cons_zero] at cp cn; obtain ⟨hc0, hc1, hc2, hc3, hc4, hc5, hc6, hc7, hc8, hc9, hc10, hc11, hc12, hc13, hc14, hc15, hcf⟩ := sp_cells HV4.out.blk)
      | (go_at_call 25; have HV5 := Aside0.mk (HUX.out ▸ HV4.out.set0 11 (.int .i64 item) (S' := { T.close with brk := item }) rfl rfl rfl rfl rfl rfl : SpV w0 _ g (okX ok w w2) U vs vo vl4 vp4 _); have HB5 := Aside0.mk (HB4.out.setCell (p := ⟨g, 11, none⟩) (by exact HHV.out.new) (.int .i64 item)); have HK5 := Aside0.mk (HK4.out.set_ 11 (.int .i64 item)); have HPN5 := Aside0.mk (HKEEP.out HK5.out HPN.out); refine (end_calls w0 _ g (okX ok w w2) U vs vo vl4 vp4 _ HV5.out HB5.out (fun k hk => HFR.out k (Nat.le_trans HK5.out.1 hk)) HUP.out.2.2.2.2.1 HUP.out.2.2.2.2.2 (by rw [HUP.out.2.2.2.1]; exact Nat.le_trans HO.out (by decide))).mono ?_; rintro e w6 ⟨rfl, ⟨vo6, hv6⟩, hb6, hk6⟩; have HV6 := Aside0.mk hv6; have HB6 := Aside0.mk hb6; have HK6 := Aside0.mk (HK5.out.trans hk6); have HPN6 := Aside0.mk (HKEEP.out hk6 HPN5.out); clear hv6 hb6 hk6; clear cp cn hc0 hc1 hc2 hc3 hc4 hc5 hc6 hc7 hc8 hc9 hc10 hc11 hc12 hc13 hc14 hc15 hcf; have cp := blk_cell (HPN6.out.1) 0; have cn := blk_cell (HPN6.out.2.1) 0; simp only [List.getElem?_toArray, List.getElem?_cons_zero] at cp cn; obtain ⟨hc0, hc1, hc2, hc3, hc4, hc5, hc6, hc7, hc8, hc9, hc10, hc11, hc12, hc13, hc14, hc15, hcf⟩ := sp_cells HV6.out.blk)
      | (go_at_call 22; refine (begin_calls w0 _ g (okX ok w w2) U.end_ vs vo6 vl4 vp4 _ HV6.out HB6.out (fun k hk => HFR.out k (Nat.le_trans HK6.out.1 hk)) (by rw [end_block, HUP.out.2.1]; exact HU.out) (by rw [end_opn, HUP.out.1]; exact HUO.out) HG.out (by rw [end_opn, HUP.out.1]; exact HN.out) (by rw [end_count, HUP.out.2.2.1]; exact HCT.out)).mono ?_; rintro e w7 ⟨rfl, ⟨vl7, vp7, hv7⟩, hb7, hk7⟩; have HV7 := Aside0.mk hv7; have HB7 := Aside0.mk hb7; have HK7 := Aside0.mk (HK6.out.trans hk7); have HPN7 := Aside0.mk (HKEEP.out hk7 HPN6.out); clear hv7 hb7 hk7; clear cp cn hc0 hc1 hc2 hc3 hc4 hc5 hc6 hc7 hc8 hc9 hc10 hc11 hc12 hc13 hc14 hc15 hcf; have cp := blk_cell (HPN7.out.1) 0; have cn := blk_cell (HPN7.out.2.1) 0; simp only [List.getElem?_toArray, List.getElem?_cons_zero] at cp cn; obtain ⟨hc0, hc1, hc2, hc3, hc4, hc5, hc6, hc7, hc8, hc9, hc10, hc11, hc12, hc13, hc14, hc15, hcf⟩ := sp_cells HV7.out.blk))
    have hg := grownBy_putObj' w7 D (.deferred none)
    have hown : ∀ r, some D = some r → ∃ o : Obj, w7.heap[r]? = some o ∧ o.isCells = false := fun r e => by cases e; exact ⟨_, HPN7.out.2.2, rfl⟩
    have hD2 : ∀ r, some D = some r → w2.heap.size ≤ r := fun r e => by cases e; exact HD.out
    refine ⟨by simp, .inl ⟨_, _, rfl, run_takeDeferred HPN7.out.2.2, ?_⟩⟩
    refine ⟨_, results_none rfl _ _ _, rfl, ⟨_, _, _, _, by rw [HUB.out]; exact (HV7.out.own hg hown).mono (fun k hk => hk.1)⟩, HB7.out.grown hg HB7.out.size (fun k e => Nat.le_trans HSB.out (hD2 k e)), Kp.ofX ((HI.out.kp.trans HK7.out).own hg hD2) HS2.out⟩
  case stop =>
    rintro D c pre W _ _ h
    exact h.elim
end Go.Proofs.YtlfpjlpaiaonkaaDoor.Sp

/- Layer 13's splitter: where an open box lies; enter. -/
import Derived.Test.YtlfpjlpaiaonkaaDoorSpA
import Derived.Outline
namespace Go.Proofs.YtlfpjlpaiaonkaaDoor.Sp
open Go.RowKit Go.Proofs.YtlfpjlpaiaonkaaDoorW.PrintWords Go.Proofs.YtlfpjlpaiaonkaaDoorW.PrintLast Go.Proofs.YtlfpjlpaiaonkaaDoorW.PrintMore Go.Proofs.YtlfpjlpaiaonkaaDoorH Go.Proofs.YtlfpjlpaiaonkaaDoor.P
attribute [local go_sem] max2_int min2_int max_two min_two max_three min_three max_four min_four
set_option linter.unusedVariables false
set_option linter.unusedSimpArgs false
def opnC (o : Opn) : List Value := [.int .i64 o.f0, .int .u8 o.f1.f0, .int .u8 o.f1.f1, .int .u8 o.f1.f2, .int .u8 o.f1.f3, .int .i64 o.f1.f4, .int .i64 o.f1.f5, .int .i64 o.f2]
/-- The box o lies at ⟨b, off⟩: a variable of its own (e = none), or element i of the open ones. -/
def Loc (w : World) (g : Nat) (ok : Nat → Prop) (S : Sp) (vn : Value) (b off : Nat) (o : Opn) : Option Nat → Prop
  | none => off = 0 ∧ w.heap[b]? = some (.cells (opnC o).toArray tOpn (0, 0)) ∧ b ≠ g ∧ ¬ ok b
  | some i => ∃ cap, vn = .slice (some ⟨b, 0, none⟩) S.opn.length cap ∧ off = i * 8 ∧ i < S.opn.length ∧ S.opn.getD i z98 = o
def Sp.upd (S : Sp) (o : Opn) : Option Nat → Sp
  | none => S
  | some i => { S with opn := S.opn.set i o }
theorem Sp.upd_count (S : Sp) (o : Opn) (e : Option Nat) : (S.upd o e).count = S.count := by cases e <;> rfl
theorem Sp.put_count (S : Sp) (rs : List Int) (item : Int) : (S.put rs item).count = S.count := rfl
theorem Sp.upd_upd (S : Sp) (o : Opn) (x y : Int) (c : Int) (e : Option Nat) : { (S.upd { o with f2 := x } e) with count := c }.upd { o with f2 := y } e = { S with count := c }.upd { o with f2 := y } e := by
  cases e <;> simp [Sp.upd]
theorem Sp.upd_with (S : Sp) (o : Opn) (c : Int) (e : Option Nat) : { (S.upd o e) with count := c } = { S with count := c }.upd o e := by cases e <;> rfl
section
variable {w0 w w1 : World} {g : Nat} {ok : Nat → Prop} {S : Sp} {vs vo vl vp vn : Value} {b off : Nat} {o : Opn} {e : Option Nat}
theorem Loc.cells (hL : Loc w g ok S vn b off o e) (h : SpV w0 w g ok S vs vo vl vp vn) : (∀ j u, (opnC o)[j]? = some u → w.cell? ⟨b, off + j, none⟩ = some u) ∧ (∀ j, w.frozen? ⟨b, off + j, none⟩ = false) := by
  cases e with
  | none =>
    obtain ⟨rfl, hb, _, _⟩ := hL
    exact ⟨fun j u hu => by rw [blk_cell hb, Nat.zero_add]; simpa using hu, fun j => blk_frozen hb _⟩
  | some i =>
    obtain ⟨cap, rfl, rfl, hi, rfl⟩ := hL
    obtain ⟨c, hcl, hM, hc, hf⟩ := Kd.R_elem h.opn z98 (i : Int) (by omega) (by omega)
    rw [Int.toNat_natCast] at hM hc hf
    obtain rfl := k98_openM hM
    exact ⟨hc, hf⟩
/-- Where it lies, it stays: over what a method does. -/
theorem Loc.put_ {S' : Sp} (hL : Loc w g ok S vn b off o e) (hk : Kp w w1 g ok) (hs : S'.opn = S.opn) : Loc w1 g ok S' vn b off o e := by
  cases e with
  | none =>
    obtain ⟨rfl, hb, hg, ho⟩ := hL
    exact ⟨rfl, hk.2 b _ hb hg (.inl ho), hg, ho⟩
  | some i =>
    obtain ⟨cap, rfl, rfl, hi, rfl⟩ := hL
    exact ⟨cap, by rw [hs], rfl, by rw [hs]; exact hi, by rw [hs]⟩
theorem Loc.below (hL : Loc w g ok S vn b off o e) (hb : Below w.heap.size w w1) : Loc w1 g ok S vn b off o e := hL.put_ ((Kp.refl w g ok).below hb) rfl
theorem Loc.setG (hL : Loc w g ok S vn b off o e) (i : Nat) (u : Value) {S' : Sp} (hs : S'.opn = S.opn) : Loc (w.setCell ⟨g, i, none⟩ u) g ok S' vn b off o e := hL.put_ ((Kp.refl w g ok).set_ i u) hs
theorem Loc.new (hL : Loc w g ok S vn b off o e) (h : SpV w0 w g ok S vs vo vl vp vn) : b ≠ g := by
  cases e with
  | none => exact hL.2.2.1
  | some i =>
    obtain ⟨cap, rfl, _⟩ := hL
    rintro rfl
    exact Kd.R_ne h.opn h.blk (by decide) (by simp [Value.ownBlock])
theorem Loc.base (hL : Loc w g ok S vn b off o e) (h : SpV w0 w g ok S vs vo vl vp vn) (hb : e = none → w0.heap.size ≤ b) : w0.heap.size ≤ b := by
  cases e with
  | none => exact hb rfl
  | some i =>
    obtain ⟨cap, rfl, _⟩ := hL
    exact Kd.R_base h.opn b (by simp [Value.ownBlock])
/-- The piece is stored. -/
theorem Loc.set_ (hL : Loc w g ok S vn b off o e) (h : SpV w0 w g ok S vs vo vl vp vn) (x : Int) :
    SpV w0 (w.setCell ⟨b, off + 7, none⟩ (.int .i64 x)) g ok (S.upd { o with f2 := x } e) vs vo vl vp vn ∧ Loc (w.setCell ⟨b, off + 7, none⟩ (.int .i64 x)) g ok (S.upd { o with f2 := x } e) vn b off { o with f2 := x } e := by
  have hgb := hL.new h
  cases e with
  | none =>
    obtain ⟨rfl, hb, hg, ho⟩ := hL
    have hne : ∀ k, ok k → k ≠ b := fun k hk he => ho (he ▸ hk)
    refine ⟨⟨(Below.heap_setCell w _ _ g (Ne.symm hg)).trans h.blk, h.new, h.sty, Kd.S_far h.out (p := ⟨b, 0 + 7, none⟩) (fun k hk => hne k hk.1) _, Kd.R_far h.L (p := ⟨b, 0 + 7, none⟩) hne _, Kd.R_far h.pieces (p := ⟨b, 0 + 7, none⟩) hne _, Kd.R_far h.opn (p := ⟨b, 0 + 7, none⟩) hne _⟩, rfl, ?_, hg, ho⟩
    exact blk_set hb (0 + 7) _
  | some i =>
    obtain ⟨cap, rfl, rfl, hi, rfl⟩ := hL
    obtain ⟨c, hcl, hM, hc, hf⟩ := Kd.R_elem h.opn z98 (i : Int) (by omega) (by omega)
    rw [Int.toNat_natCast] at hM hc hf
    obtain rfl := k98_openM hM
    have hseg := Kd.R_seg (okp := fun _ => False) h.opn (i : Int) (by omega) (by omega) (c := opnC (S.opn.getD i z98)) (seg := [.int .i64 x]) (j := 7) rfl (by rw [Int.toNat_natCast]; exact hc) (Nat.le_refl _)
      (x' := { S.opn.getD i z98 with f2 := x }) (k98_mkM _ _ _ _) (fun _ hk => hk.elim)
    rw [Int.toNat_natCast] at hseg
    obtain ⟨hr, hg⟩ := hseg
    have hsc : w.setCells b (i * kOpn.sz + 7) [Value.int .i64 x] = w.setCell ⟨b, i * 8 + 7, none⟩ (.int .i64 x) := rfl
    rw [hsc] at hr hg
    have hv : (Value.slice (some ⟨b, 0, none⟩) S.opn.length cap).ownBlock = some b := by simp [Value.ownBlock]
    have hg' : w.grownBy (w.setCell ⟨b, i * 8 + 7, none⟩ (.int .i64 x)) (Value.slice (some ⟨b, 0, none⟩) S.opn.length cap).ownBlock := by rw [hv]; exact hg
    refine ⟨⟨blk_grown h.blk hg' (Kd.R_ne h.opn h.blk (by decide)), h.new, h.sty, Kd.S_over' h.out (fun k hk => Kd.R_typed h.opn k hk) (by decide) hg', Kd.R_over h.L h.opn (by decide) hg', Kd.R_over h.pieces h.opn (by decide) hg', hr⟩, cap, by simp [Sp.upd], rfl, by simp [Sp.upd]; exact hi, ?_⟩
    simp [Sp.upd, List.getD_eq_getElem?_getD, hi]
theorem Loc.typed (hL : Loc w g ok S vn b off o e) (h : SpV w0 w g ok S vs vo vl vp vn) : ∃ c, w.heap[b]? = some (.cells c tOpn (0, 0)) := by
  cases e with
  | none => exact ⟨_, hL.2.1⟩
  | some i =>
    obtain ⟨cap, rfl, _⟩ := hL
    exact Kd.R_typed h.opn b (by simp [Value.ownBlock])
theorem Kp.mono {ok' : Nat → Prop} (h : Kp w w1 g ok) (ho : ∀ k, ok k → ok' k) : Kp w w1 g ok' :=
  ⟨h.1, fun k o hk hg hn => h.2 k o hk hg (hn.imp (fun hh h2 => hh (ho k h2)) id)⟩
theorem Kp.loc {W : World} {okp : Nat → Prop} (h : Kp W w g okp) (hb : okp b) (hL : Loc w g ok S vn b off o e) (hV : SpV w0 w g ok S vs vo vl vp vn) (i : Nat) (u : Value) : Kp W (w.setCell ⟨b, i, none⟩ u) g okp := by
  refine ⟨by simpa [World.setCell] using h.1, fun k x hk hg ho => ?_⟩
  have h1 := h.2 k x hk hg ho
  refine (Below.heap_setCell w ⟨b, i, none⟩ u k ?_).trans h1
  rintro rfl
  obtain ⟨c, hc⟩ := hL.typed hV
  rcases ho with ho | ho
  · exact ho hb
  · rw [h1] at hc
    exact ho c tOpn (by simp) (Option.some.inj hc)
end
theorem iso_f (s : Sty) : para_isolates.f s.f0 s.f1 s.f2 s.f3 s.f4 s.f5 = some (isoB s) := by
  unfold para_isolates.f isoB
  by_cases h2 : s.f2 = 2
  · simp [h2]
  · by_cases h4 : s.f2 = 4
    · simp [h4]
    · simp only [h2, h4, if_false, decide_false, Bool.false_or]
      rfl
set_option maxHeartbeats 4000000 in
set_option maxRecDepth 100000 in
theorem enter_calls (w0 w : World) (g : Nat) (ok : Nat → Prop) (S : Sp) (vs vo vl vp vn : Value) (b off : Nat) (o : Opn) (e : Option Nat) (outer : Int) (hV : SpV w0 w g ok S vs vo vl vp vn) (hL : Loc w g ok S vn b off o e) (hB : Below w0.heap.size w0 w) (hb : w0.heap.size ≤ b) (hok : ∀ k, w.heap.size ≤ k → ok k)
    (hu : u8 o.f1.f1 ∧ u8 o.f1.f2) (hG : LaidW w) (hl : S.L.length ≤ 100000000000) (hp : S.pieces.length ≤ 100000000000) (hc : 0 ≤ S.count ∧ S.count ≤ 100000000000) :
    Calls Tryd.prog 38 #[.pointer (some ⟨g, 0, none⟩), .pointer (some ⟨b, off, none⟩), .int .i64 outer] w fun e' w' => e' = .returned (.tuple #[]) ∧
      (∃ vl' vp', SpV w0 w' g ok ((S.enter o outer).1.upd { o with f2 := (S.enter o outer).2 } e) vs vo vl' vp' vn ∧ Loc w' g ok ((S.enter o outer).1.upd { o with f2 := (S.enter o outer).2 } e) vn b off { o with f2 := (S.enter o outer).2 } e) ∧ Below w0.heap.size w0 w' ∧ Kp w w' g (fun k => ok k ∨ k = b) := by
  obtain ⟨hx, hxf⟩ := hL.cells hV
  have hx0 : w.cell? ⟨b, off, none⟩ = some (.int .i64 o.f0) := hx 0 _ rfl
  have hx1 : w.cell? ⟨b, off + 1, none⟩ = some (.int .u8 o.f1.f0) := hx 1 _ rfl
  have hx2 : w.cell? ⟨b, off + 1 + 1, none⟩ = some (.int .u8 o.f1.f1) := hx 2 _ rfl
  have hx3 : w.cell? ⟨b, off + 1 + 2, none⟩ = some (.int .u8 o.f1.f2) := hx 3 _ rfl
  have hx7 : w.cell? ⟨b, off + 7, none⟩ = some (.int .i64 o.f2) := hx 7 _ rfl
  have HV := Aside0.mk hV
  have HL := Aside0.mk hL
  have HB := Aside0.mk hB
  have HK := Aside0.mk hok
  have HU := Aside0.mk hu
  have HG := Aside0.mk hG
  have HLL := Aside0.mk hl
  have HP := Aside0.mk hp
  have HC := Aside0.mk hc
  clear hV hL hB hok hu hG hl hp hc hx hxf
  have hbg : b ≠ g := HL.out.new HV.out
  have hgb : g ≠ b := Ne.symm hbg
  have Hb := Aside0.mk hb
  clear hb
  obtain ⟨hct1, hct2⟩ := HC.out
  cases hi : isoB o.f1
  all_goals
    have hen : S.enter o outer = if isoB o.f1 = true then ({ S.put (ctlR o.f1.f2 o.f1.f1).1 o.f0 with count := S.count + 1 }, S.count + 1) else (S.put (ctlR o.f1.f2 o.f1.f1).1 o.f0, outer) := rfl
    rw [hi] at hen
    simp only [Bool.false_eq_true, if_false, if_true] at hen
    rw [hen]
    have HI := Aside0.mk hi
    clear hi hen
    go_enter Tryd.func38, Tryd.ntmps38
    go_wp2
    go_quiet ((go_at_call 14; exact ctl_quiet _ _ _ _ HU.out.2 HU.out.1 HG.out))
    go_wp2_with (first
      | (go_at_call 37; refine (put_calls w0 _ g ok S vs vo vl vp vn _ (ctlR o.f1.f2 o.f1.f1).1 o.f0 (HV.out.drewN nq) (pw_below_drewN HB.out nq) (fun k hk => HK.out k hk) (ctl_dec _ _).1 (by have := HLL.out; have := (ctlR_len o.f1.f2 o.f1.f1).1; omega) (by have := HP.out; have := (ctlR_len o.f1.f2 o.f1.f1).1; omega)).mono ?_; rintro e w2 ⟨rfl, ⟨vl2, vp2, hv⟩, hb2, hk⟩; have HV2 := Aside0.mk hv; have HB2 := Aside0.mk hb2; have HK2 := Aside0.mk (((Kp.refl w g ok).drewN nq).trans hk); clear hv hb2 hk; have HL2 := Aside0.mk (HL.out.put_ (S' := S.put (ctlR o.f1.f2 o.f1.f1).1 o.f0) HK2.out rfl); obtain ⟨hx, hxf⟩ := HL2.out.cells HV2.out; clear hx0 hx1 hx2 hx3 hx7; have hx0 := hx 0 _ rfl; have hx1 := hx 1 _ rfl; have hx2 : w2.cell? ⟨b, off + 1 + 1, none⟩ = _ := hx 2 _ rfl; have hx3 : w2.cell? ⟨b, off + 1 + 2, none⟩ = _ := hx 3 _ rfl; have hx4 : w2.cell? ⟨b, off + 1 + 3, none⟩ = _ := hx 4 _ rfl; have hx5 : w2.cell? ⟨b, off + 1 + 4, none⟩ = _ := hx 5 _ rfl; have hx6 : w2.cell? ⟨b, off + 1 + 5, none⟩ = _ := hx 6 _ rfl; have hx7 := hx 7 _ rfl; have hxf7 := hxf 7; clear hx hxf)
      | (go_at_call 50; refine (para_isolates.calls o.f1.f0 o.f1.f1 o.f1.f2 o.f1.f3 o.f1.f4 o.f1.f5 (isoB o.f1) _ (iso_f o.f1)).mono ?_; rintro e w4 ⟨rfl, hb4⟩; have h3 := HL2.out.set_ HV2.out outer; have hb3 : Below w0.heap.size w0 (w2.setCell ⟨b, off + 7, none⟩ (.int .i64 outer)) := HB2.out.setCell (by exact Hb.out) _; have hk3 := Kp.loc (okp := fun k => ok k ∨ k = b) (HK2.out.mono fun k hk => .inl hk) (.inr rfl) HL2.out HV2.out (off + 7) (.int .i64 outer); have HV4 := Aside0.mk (h3.1.below hb4); have HL4 := Aside0.mk (h3.2.below hb4); have HB4 := Aside0.mk (below_step hb3 hb4); have HK4 := Aside0.mk (hk3.below hb4); clear h3 hb3 hk3 hb4; obtain ⟨hc0, hc1, hc2, hc3, hc4, hc5, hc6, hc7, hc8, hc9, hc10, hc11, hc12, hc13, hc14, hc15, hcf⟩ := sp_cells HV4.out.blk; rw [Sp.upd_count, Sp.put_count] at hc14; clear hx0 hx1 hx2 hx3 hx4 hx5 hx6 hx7 hxf7; obtain ⟨hx, hxf⟩ := HL4.out.cells HV4.out; have hx7 := hx 7 _ rfl; have hxf7 := hxf 7; clear hx hxf; rw [HI.out]))
    go_end0
    first
      | exact ⟨rfl, ⟨_, _, HV4.out, HL4.out⟩, HB4.out, HK4.out⟩
      | (have hs : (spC ((S.put (ctlR o.f1.f2 o.f1.f1).1 o.f0).upd { o with f2 := outer } e) vs vo vl2 vp2 vn).setIfInBounds 14 (.int .i64 (S.count + 1)) = spC { ((S.put (ctlR o.f1.f2 o.f1.f1).1 o.f0).upd { o with f2 := outer } e) with count := S.count + 1 } vs vo vl2 vp2 vn := rfl
         have HV5 := HV4.out.set0 14 (.int .i64 (S.count + 1)) hs rfl rfl rfl rfl rfl
         have HL5 := HL4.out.setG 14 (.int .i64 (S.count + 1)) (S' := { ((S.put (ctlR o.f1.f2 o.f1.f1).1 o.f0).upd { o with f2 := outer } e) with count := S.count + 1 }) rfl
         have HB5 : Below w0.heap.size w0 _ := HB4.out.setCell (p := ⟨g, 14, none⟩) (by exact HV.out.new) (.int .i64 (S.count + 1))
         have HK5 := HK4.out.set_ 14 (.int .i64 (S.count + 1))
         have h6 := HL5.set_ HV5 (S.count + 1)
         have HB6 : Below w0.heap.size w0 _ := HB5.setCell (p := ⟨b, off + 7, none⟩) (by exact Hb.out) (.int .i64 (S.count + 1))
         have HK6 := Kp.loc HK5 (.inr rfl) HL5 HV5 (off + 7) (.int .i64 (S.count + 1))
         rw [Sp.upd_upd] at h6
         exact ⟨rfl, ⟨_, _, h6.1, h6.2⟩, HB6, HK6⟩)
end Go.Proofs.YtlfpjlpaiaonkaaDoor.Sp

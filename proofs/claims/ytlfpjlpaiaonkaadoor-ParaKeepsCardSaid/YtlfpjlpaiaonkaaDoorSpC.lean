/- Layer 13's splitter: end, inner, char. -/
import Derived.Test.YtlfpjlpaiaonkaaDoorSpH
import Derived.Deep.RegionLaw
import Derived.Outline
namespace Go.Proofs.YtlfpjlpaiaonkaaDoor.Sp
open Go.RowKit Go.Proofs.YtlfpjlpaiaonkaaDoorW.PrintWords Go.Proofs.YtlfpjlpaiaonkaaDoorW.PrintLast Go.Proofs.YtlfpjlpaiaonkaaDoorW.PrintMore Go.Proofs.YtlfpjlpaiaonkaaDoorH Go.Proofs.YtlfpjlpaiaonkaaDoor.P Go.Proofs.YtlfpjlpaiaonkaaDoor.Mp
attribute [local go_sem] max2_int min2_int max_two min_two max_three min_three max_four min_four
set_option linter.unusedVariables false
set_option linter.unusedSimpArgs false
theorem info_par : (Tryd.prog.info? tPar).map (fun i => (i.zero, i.size, i.bytes)) = some (some (.agg #[(.int .u8 0), (.slice none 0 0), (.int .i64 0)]), 3, 40) := by kernel_rfl
theorem info_opn : (Tryd.prog.info? tOpn).map (fun i => (i.zero, i.size, i.bytes)) = some (some (.agg #[(.int .i64 0), (.int .u8 0), (.int .u8 0), (.int .u8 0), (.int .u8 0), (.int .i64 0), (.int .i64 0), (.int .i64 0)]), 8, 40) := by kernel_rfl
section
variable {ops : Array Oper} {rest : List Oper} {o : Oper} {a : Act} {Q : Exit → Act → World → Prop} {Kc : Act → World → Prop} {w0 W w1 : World} {g : Nat} {ok : Nat → Prop} {S : Sp} {vs vo vl vp vn : Value}
/-- A row of places bears no other row: any blocks may be its. -/
theorem pos_own {ok' : Nat → Prop} {base : Nat} {w : World} {v : Value} {L : List Pos} (h : Kd.R kPos tPos w base ok v L) (h' : ∀ k, v.ownBlock = some k → ok' k) : Kd.R kPos tPos w base ok' v L := by
  obtain ⟨_, inner, ho, hr⟩ := h
  exact ⟨h', inner, ho, hr.imp_ (fun x cs hx => by obtain rfl := k41_openM hx; exact k41_mkM _ _ _ x)⟩
theorem SpV.grown_out {A : Option Addr} {c : Nat} {l' : List Par} (h : SpV w0 W g ok S vs vo vl vp vn) (hr : Kd.S kPar tPar w1 w0.heap.size ok (.slice A l'.length c) l') (hg : W.grownBy w1 vo.ownBlock) :
    w1.heap[g]? = some (.cells (spC S vs vo vl vp vn) tSp (0, 0)) ∧ SpD w0 (w1.setCell ⟨g, 8, none⟩ (.slice A l'.length c)) g ok { S with out := l' } vs (.slice A l'.length c) vl vp vn := by
  have hb := blk_grown h.blk hg (Kd.S_ne h.out h.blk (by decide))
  exact ⟨hb, ⟨blk_set hb 8 _, h.new, h.sty, Kd.S_set hr hb (by decide) 8 _, Kd.R_set (Kd.R_over h.opn (Kd.S_R h.out) (by decide) hg) hb (by decide) 8 _⟩⟩
theorem app_out (hw : Region.wanted o (yielded ops a.tmps) = true) (HV : SpV w0 W g ok S vs vo vl vp vn) (s x : Operand) (t : TypeId) (ho : o.op = .call { callee := .builtin .append, args := #[s, x], argTypes := #[t, t] }) (ht : Tryd.prog.underlying t = some (.slice tPar))
    (hs : a.eval s = vo) {bx : Nat} (hx : a.eval x = .slice (some ⟨bx, 0, none⟩) 1 1) (hbx : bx = W.heap.size) (HB : Below w0.heap.size w0 W) (hfresh : ∀ k, W.heap.size ≤ k → ok k) (hl : S.out.length ≤ 1000000000000)
    (h : ∀ A c w1, w1.heap[g]? = some (.cells (spC S vs vo vl vp vn) tSp (0, 0)) → SpD w0 (w1.setCell ⟨g, 8, none⟩ (.slice A (S.out.length + 1) c)) g ok { S with out := S.out ++ [⟨S.base, S.L, S.brk⟩] } vs (.slice A (S.out.length + 1) c) vl vp vn → Below w0.heap.size w0 (w1.setCell ⟨g, 8, none⟩ (.slice A (S.out.length + 1) c)) → Kp W (w1.setCell ⟨g, 8, none⟩ (.slice A (S.out.length + 1) c)) g ok → Kc (a.put o.dst (.slice A (S.out.length + 1) c)) w1) :
    if Region.wanted o (yielded ops a.tmps) = true then Oper.wp Tryd.prog o a (W.alloc (.cells #[.int .u8 S.base, vl, .int .i64 S.brk] tPar)) Kc Q else Kc (a.put o.dst undef) (W.alloc (.cells #[.int .u8 S.base, vl, .int .i64 S.brk] tPar)) := by
  subst hbx
  have hne : ∀ k, vl.ownBlock = some k → some k ≠ vo.ownBlock := fun k hk => by
    obtain ⟨c, hc⟩ := Kd.R_typed HV.L k hk
    exact Kd.S_ne HV.out hc (by decide)
  refine Kd.S_append_step kPar (w0 := w0) w0.heap.size hw s x t tPar (.agg #[(.int .u8 0), (.slice none 0 0), (.int .i64 0)]) 40 ho ht info_par rfl (by decide) (by decide) vo S.out (⟨S.base, S.L, S.brk⟩ : Par) [.int .u8 S.base, vl, .int .i64 S.brk] ok (fun k => vl.ownBlock = some k) hs hx (k39_mkM _ _ _ (⟨S.base, S.L, S.brk⟩ : Par) (pos_own HV.L (fun k hk => hk))) (fun k hk => ⟨HV.L.1 k hk, hne k hk⟩) hfresh (Kd.S_mono HV.out (fun k hk => ⟨hk.1, fun e => hk.2 e.symm⟩)) HB HB.size (by omega) ?_
  intro v1 w1 hr hb hg hat
  obtain ⟨A, c, rfl⟩ := Kd.S_slice hr
  obtain ⟨h1, h2⟩ := HV.grown_out hr hg
  rw [List.length_append, List.length_singleton] at h2 ⊢
  exact h A c w1 h1 h2 (hb.setCell (by exact HV.new) _) (((Kp.refl W g ok).grown hg (Kp.row (by simp) (Kd.S_R (Kd.S_mono HV.out (fun _ hk => hk.1))))).set_ 8 _)
theorem app_opn (hw : Region.wanted o (yielded ops a.tmps) = true) (HV : SpV w0 W g ok S vs vo vl vp vn) (p : Opn) (s x : Operand) (t : TypeId) (ho : o.op = .call { callee := .builtin .append, args := #[s, x], argTypes := #[t, t] }) (ht : Tryd.prog.underlying t = some (.slice tOpn))
    (hs : a.eval s = vn) {bx : Nat} (hx : a.eval x = .slice (some ⟨bx, 0, none⟩) 1 1) (hbx : bx = W.heap.size) (HB : Below w0.heap.size w0 W) (hfresh : ∀ k, W.heap.size ≤ k → ok k) (hl : S.opn.length ≤ 1000000000000)
    (h : ∀ A c w1, w1.heap[g]? = some (.cells (spC S vs vo vl vp vn) tSp (0, 0)) → SpV w0 (w1.setCell ⟨g, 13, none⟩ (.slice A (S.opn.length + 1) c)) g ok { S with opn := S.opn ++ [p] } vs vo vl vp (.slice A (S.opn.length + 1) c) → Below w0.heap.size w0 (w1.setCell ⟨g, 13, none⟩ (.slice A (S.opn.length + 1) c)) → Kp W w1 g ok → Kc (a.put o.dst (.slice A (S.opn.length + 1) c)) w1) :
    if Region.wanted o (yielded ops a.tmps) = true then Oper.wp Tryd.prog o a (W.alloc (.cells #[.int .i64 p.f0, .int .u8 p.f1.f0, .int .u8 p.f1.f1, .int .u8 p.f1.f2, .int .u8 p.f1.f3, .int .i64 p.f1.f4, .int .i64 p.f1.f5, .int .i64 p.f2] tOpn)) Kc Q else Kc (a.put o.dst undef) (W.alloc (.cells #[.int .i64 p.f0, .int .u8 p.f1.f0, .int .u8 p.f1.f1, .int .u8 p.f1.f2, .int .u8 p.f1.f3, .int .i64 p.f1.f4, .int .i64 p.f1.f5, .int .i64 p.f2] tOpn)) := by
  subst hbx
  refine Kd.R_append_step kOpn (w0 := w0) w0.heap.size hw s x t tOpn (.agg #[(.int .i64 0), (.int .u8 0), (.int .u8 0), (.int .u8 0), (.int .u8 0), (.int .i64 0), (.int .i64 0), (.int .i64 0)]) 40 ho ht info_opn rfl (by decide) (by decide) vn S.opn p [.int .i64 p.f0, .int .u8 p.f1.f0, .int .u8 p.f1.f1, .int .u8 p.f1.f2, .int .u8 p.f1.f3, .int .i64 p.f1.f4, .int .i64 p.f1.f5, .int .i64 p.f2] ok (fun _ => False) hs hx (k98_mkM _ _ _ p) (fun _ hk => hk.elim) hfresh HV.opn HB HB.size (by omega) ?_
  intro v1 w1 hr hb hg hat
  obtain ⟨A, c, rfl⟩ := Kd.R_slice hr
  obtain ⟨h1, h2⟩ := HV.grown_opn hr hg
  rw [List.length_append, List.length_singleton] at h2 ⊢
  exact h A c w1 h1 h2 (hb.setCell (by exact HV.new) _) ((Kp.refl W g ok).grown hg (Kp.row (by simp) HV.opn))
end
def Sp.push (S : Sp) : Sp := { S with out := S.out ++ [⟨S.base, S.L, S.brk⟩] }
def Sp.end_ (S : Sp) : Sp := if S.hard = true then S.harden.push else S.push
set_option maxHeartbeats 4000000 in
set_option maxRecDepth 100000 in
theorem end_calls (w0 w : World) (g : Nat) (ok : Nat → Prop) (S : Sp) (vs vo vl vp vn : Value) (hV : SpV w0 w g ok S vs vo vl vp vn) (hB : Below w0.heap.size w0 w) (hok : ∀ k, w.heap.size ≤ k → ok k) (hl : S.L.length ≤ 1000000000000) (hp : S.pieces.length = S.L.length) (ho : S.out.length ≤ 1000000000000) :
    Calls Tryd.prog 25 #[.pointer (some ⟨g, 0, none⟩)] w fun e' w' => e' = .returned (.tuple #[]) ∧ (∃ vo', SpD w0 w' g ok S.end_ vs vo' vl vp vn) ∧ Below w0.heap.size w0 w' ∧ Kp w w' g ok := by
  obtain ⟨Ao, co, rfl⟩ := Kd.S_slice hV.out
  obtain ⟨Al, cl, rfl⟩ := Kd.R_slice hV.L
  have HV := Aside0.mk hV
  obtain ⟨hc0, hc1, hc2, hc3, hc4, hc5, hc6, hc7, hc8, hc9, hc10, hc11, hc12, hc13, hc14, hc15, hcf⟩ := sp_cells hV.blk
  have HB := Aside0.mk hB
  have HK := Aside0.mk hok
  have HL := Aside0.mk hl
  have HP := Aside0.mk hp
  have HO := Aside0.mk ho
  have hga : ∀ (o : Obj) (j : Nat), (w.alloc o).cell? ⟨g, j, none⟩ = w.cell? ⟨g, j, none⟩ := fun o j => World.cell?_alloc_lt w o ⟨g, j, none⟩ hV.lt
  clear hV hB hok hl hp ho
  cases hh : S.hard
  · have HE := Aside0.mk (show S.end_ = S.push by simp [Sp.end_, hh])
    rw [hh] at hc7
    clear hh
    go_enter Tryd.func25, Tryd.ntmps25
    go_wp2
    go_region_law ((refine app_out rfl HV.out.drew (.tmp 12) (.tmp 17) 27 rfl Tryd.underlying27 rfl rfl rfl (below_drew1 HB.out) (fun k hk => HK.out k hk) HO.out ?_; intro A1 c1 w1 hb hv hbe hkp; clear hc0 hc1 hc2 hc3 hc4 hc5 hc6 hc7 hc8 hc9 hc10 hc11 hc12 hc13 hc14 hc15 hcf; obtain ⟨hc0, hc1, hc2, hc3, hc4, hc5, hc6, hc7, hc8, hc9, hc10, hc11, hc12, hc13, hc14, hc15, hcf⟩ := sp_cells hb; have HV1 := Aside0.mk hv; have HB1 := Aside0.mk hbe; have HK1 := Aside0.mk hkp; clear hb hv hbe hkp))
    all_goals (go_wp2; go_end0; exact ⟨rfl, ⟨_, by rw [HE.out]; exact HV1.out⟩, HB1.out, ((Kp.refl w g ok).drew).trans HK1.out⟩)
  · have HE := Aside0.mk (show S.end_ = S.harden.push by simp [Sp.end_, hh])
    have HO1 := Aside0.mk (show S.harden.out.length ≤ 1000000000000 from HO.out)
    rw [hh] at hc7
    clear hh
    go_enter Tryd.func25, Tryd.ntmps25
    go_wp2_with (go_at_call 42; refine (harden_calls w0 _ g ok S vs _ _ vp vn HV.out HB.out HL.out HP.out).mono ?_; rintro e w2 ⟨rfl, hv, hb, hk⟩; have HV2 := Aside0.mk hv; have HB2 := Aside0.mk hb; have HK2 := Aside0.mk hk; have hga2 : ∀ (o : Obj) (j : Nat), (w2.alloc o).cell? ⟨g, j, none⟩ = w2.cell? ⟨g, j, none⟩ := fun o j => World.cell?_alloc_lt w2 o ⟨g, j, none⟩ hv.lt; clear hv hb hk; clear hga hc0 hc1 hc2 hc3 hc4 hc5 hc6 hc7 hc8 hc9 hc10 hc11 hc12 hc13 hc14 hc15 hcf; obtain ⟨hc0, hc1, hc2, hc3, hc4, hc5, hc6, hc7, hc8, hc9, hc10, hc11, hc12, hc13, hc14, hc15, hcf⟩ := sp_cells HV2.out.blk)
    go_region_law ((refine app_out rfl HV2.out.drew (.tmp 12) (.tmp 17) 27 rfl Tryd.underlying27 rfl rfl rfl (below_drew1 HB2.out) (fun k hk => HK.out k (Nat.le_trans HK2.out.1 hk)) HO1.out ?_; intro A1 c1 w1 hb hv hbe hkp; clear hc0 hc1 hc2 hc3 hc4 hc5 hc6 hc7 hc8 hc9 hc10 hc11 hc12 hc13 hc14 hc15 hcf; obtain ⟨hc0, hc1, hc2, hc3, hc4, hc5, hc6, hc7, hc8, hc9, hc10, hc11, hc12, hc13, hc14, hc15, hcf⟩ := sp_cells hb; have HV1 := Aside0.mk hv; have HB1 := Aside0.mk hbe; have HK1 := Aside0.mk hkp; clear hb hv hbe hkp))
    all_goals (go_wp2; go_end0; exact ⟨rfl, ⟨_, by rw [HE.out]; exact HV1.out⟩, HB1.out, (HK2.out.drew).trans HK1.out⟩)
theorem end_block (S : Sp) : S.end_.block = S.block := by unfold Sp.end_; split <;> rfl
theorem end_opn (S : Sp) : S.end_.opn = S.opn := by unfold Sp.end_; split <;> rfl
theorem end_count (S : Sp) : S.end_.count = S.count := by unfold Sp.end_; split <;> rfl
set_option maxHeartbeats 4000000 in
set_option maxRecDepth 100000 in
theorem inner_calls (w0 w : World) (g : Nat) (ok : Nat → Prop) (S : Sp) (vs vo vl vp vn : Value) (hV : SpV w0 w g ok S vs vo vl vp vn) (hn : S.opn.length ≤ 10000000000) :
    Calls Tryd.prog 39 #[.pointer (some ⟨g, 0, none⟩)] w fun e' w' => e' = .returned (.int .i64 S.inner) ∧ w = w' := by
  obtain ⟨hc0, hc1, hc2, hc3, hc4, hc5, hc6, hc7, hc8, hc9, hc10, hc11, hc12, hc13, hc14, hc15, hcf⟩ := sp_cells hV.blk
  by_cases h0 : S.opn.length = 0
  · obtain ⟨An, cn, rfl⟩ := Kd.R_slice hV.opn
    have hi : S.inner = 0 := by simp [Sp.inner, h0]
    rw [hi]
    rw [h0] at hc13
    clear hV hi h0 hn
    go_enter Tryd.func39, Tryd.ntmps39
    go_wp2
    go_ret
    exact ⟨rfl, rfl⟩
  · obtain ⟨b, cap, rfl, _, _, _⟩ := Kd.R_form hV.opn (by omega)
    obtain ⟨m, hm⟩ : ∃ m, S.opn.length = m + 1 := ⟨S.opn.length - 1, by omega⟩
    obtain ⟨c, hcl, hM, hc, hf⟩ := Kd.R_elem hV.opn z98 (m : Int) (by omega) (by omega)
    rw [Int.toNat_natCast] at hM hc
    obtain rfl := k98_openM hM
    have hx7 : w.cell? ⟨b, m * 8 + 7, none⟩ = some (.int .i64 (S.opn.getD m z98).f2) := hc 7 _ rfl
    have hi : S.inner = (S.opn.getD m z98).f2 := by unfold Sp.inner; rw [if_neg h0, hm, Nat.add_sub_cancel]
    rw [hi]
    generalize (S.opn.getD m z98).f2 = x at hx7 ⊢
    rw [hm] at hc13 hn
    have hw2 : ((m + 1 : Nat) : Int) - 1 = (m : Int) := by omega
    have hpos : 0 < ((m + 1 : Nat) : Int) := by omega
    have hmb : m < 10000000000 := by omega
    clear hV hi h0 hn hc hf hM hcl hm
    go_enter Tryd.func39, Tryd.ntmps39
    go_wp2
    go_ret
    exact ⟨rfl, rfl⟩
end Go.Proofs.YtlfpjlpaiaonkaaDoor.Sp

/- Layer 13's splitter: harden. -/
import Derived.Test.YtlfpjlpaiaonkaaDoorSpB
import Derived.Test.YtlfpjlpaiaonkaaDoorP3
import Derived.Outline
namespace Go.Proofs.YtlfpjlpaiaonkaaDoor.Sp
open Go.ChangeMaps (setBlock)
open Go.RowKit Go.Proofs.YtlfpjlpaiaonkaaDoorW.PrintWords Go.Proofs.YtlfpjlpaiaonkaaDoorW.PrintLast Go.Proofs.YtlfpjlpaiaonkaaDoorW.PrintMore Go.Proofs.YtlfpjlpaiaonkaaDoorH Go.Proofs.YtlfpjlpaiaonkaaDoor.P Go.Proofs.YtlfpjlpaiaonkaaDoor.Mp
attribute [local go_sem] max2_int min2_int max_two min_two max_three min_three max_four min_four
set_option linter.unusedVariables false
set_option linter.unusedSimpArgs false
section
variable {w0 w w1 : World} {g : Nat} {ok : Nat → Prop} {S : Sp} {vs vo vl vp vn : Value}
/-- Only blocks below B are its. -/
theorem SpV.bound (h : SpV w0 w g ok S vs vo vl vp vn) : SpV w0 w g (fun k => ok k ∧ k < w.heap.size) S vs vo vl vp vn :=
  ⟨h.blk, h.new, h.sty, Kd.S_mono (Kd.S_bound h.out) (fun k hk => ⟨⟨hk.1.1, hk.2.2.1⟩, hk.1.2⟩), Kd.R_mono (Kd.R_bound h.L) (fun k hk => ⟨hk.1, hk.2.2.1⟩), Kd.R_mono (Kd.R_bound h.pieces) (fun k hk => ⟨hk.1, hk.2.2.1⟩), Kd.R_mono (Kd.R_bound h.opn) (fun k hk => ⟨hk.1, hk.2.2.1⟩)⟩
theorem SpV.mono {ok' : Nat → Prop} (h : SpV w0 w g ok S vs vo vl vp vn) (ho : ∀ k, ok k → ok' k) : SpV w0 w g ok' S vs vo vl vp vn :=
  ⟨h.blk, h.new, h.sty, Kd.S_mono h.out (fun k hk => ⟨ho k hk.1, hk.2⟩), Kd.R_mono h.L ho, Kd.R_mono h.pieces ho, Kd.R_mono h.opn ho⟩
theorem SpV.step {B : Nat} (h : SpV w0 w g (fun k => ok k ∧ k < B) S vs vo vl vp vn) (hg : g < B) (hm : ∀ k, k < B → k < w.heap.size → w1.heap[k]? = w.heap[k]?) : SpV w0 w1 g (fun k => ok k ∧ k < B) S vs vo vl vp vn :=
  ⟨(hm g hg h.lt).trans h.blk, h.new, h.sty, Kd.S_step h.out (fun k hk => hm k hk.1.2), Kd.R_step h.L (fun k hk => hm k hk.2), Kd.R_step h.pieces (fun k hk => hm k hk.2), Kd.R_step h.opn (fun k hk => hm k hk.2)⟩
/-- A place of L. -/
theorem SpV.place (h : SpV w0 w g ok S vs vo vl vp vn) {b n cap i : Nat} (hv : vl = .slice (some ⟨b, 0, none⟩) n cap) (hi : i < S.L.length) :
    w.cell? ⟨b, i * 3, none⟩ = some (.int .i32 (S.L.getD i z41).f0) ∧ w.cell? ⟨b, i * 3 + 1, none⟩ = some (.int .i64 (S.L.getD i z41).f1) ∧ w.cell? ⟨b, i * 3 + 2, none⟩ = some (.bool (S.L.getD i z41).f2) ∧ ∀ j, w.frozen? ⟨b, i * 3 + j, none⟩ = false := by
  subst hv
  have hL := h.L
  obtain ⟨hn, _, _⟩ := Kd.R_reads' hL
  obtain ⟨c, hcl, hM, hc, hf⟩ := Kd.R_elem hL z41 (i : Int) (by omega) (by omega)
  rw [Int.toNat_natCast] at hM hc hf
  obtain rfl := k41_openM hM
  exact ⟨hc 0 _ rfl, hc 1 _ rfl, hc 2 _ rfl, hf⟩
theorem SpV.fix (h : SpV w0 w g ok S vs vo vl vp vn) {b n cap i : Nat} (hv : vl = .slice (some ⟨b, 0, none⟩) n cap) (hi : i < S.L.length) :
    SpV w0 (w.setCell ⟨b, i * 3, none⟩ (.int .i32 65533)) g ok { S with L := fixL S.L i } vs vo vl vp vn ∧ w.grownBy (w.setCell ⟨b, i * 3, none⟩ (.int .i32 65533)) vl.ownBlock := by
  subst hv
  have hL := h.L
  obtain ⟨hn, _, _⟩ := Kd.R_reads' hL
  obtain ⟨c, hcl, hM, hc, hf⟩ := Kd.R_elem hL z41 (i : Int) (by omega) (by omega)
  rw [Int.toNat_natCast] at hM hc hf
  obtain rfl := k41_openM hM
  have hseg := Kd.R_seg (okp := fun _ => False) hL (i : Int) (by omega) (by omega) (seg := [.int .i32 65533]) (j := 0) rfl (by rw [Int.toNat_natCast]; exact hc) (by show 0 + 1 ≤ 3; omega)
    (x' := { S.L.getD i z41 with f0 := 65533 }) (k41_mkM _ _ _ _) (fun _ hk => hk.elim)
  rw [Int.toNat_natCast] at hseg
  obtain ⟨hr, hg⟩ := hseg
  have hsc : w.setCells b (i * kPos.sz + 0) [Value.int .i32 65533] = w.setCell ⟨b, i * 3, none⟩ (.int .i32 65533) := rfl
  rw [hsc] at hr hg
  have hv : (Value.slice (some ⟨b, 0, none⟩) n cap).ownBlock = some b := by simp [Value.ownBlock]
  have hg' : w.grownBy (w.setCell ⟨b, i * 3, none⟩ (.int .i32 65533)) (Value.slice (some ⟨b, 0, none⟩) n cap).ownBlock := by rw [hv]; exact hg
  exact ⟨⟨blk_grown h.blk hg' (Kd.R_ne h.L h.blk (by decide)), h.new, h.sty, Kd.S_grown h.out hg' (fun k hk => hk.2), hr, Kd.R_over h.pieces h.L (by decide) hg', Kd.R_over h.opn h.L (by decide) hg'⟩, hg'⟩
end
theorem hard1_step (ps : List Int) (n i : Nat) (G : List (Int × List Int)) (L : List Pos) : hard1 ps (n + 1) i G L =
    if ps.getD i 0 = 0 then hard1 ps n (i + 1) G L
    else if clsOf (L.getD i z41).f0 = 20 ∨ clsOf (L.getD i z41).f0 = 21 ∨ clsOf (L.getD i z41).f0 = 22 then hard1 ps n (i + 1) (putI (ps.getD i 0) (rowI (ps.getD i 0) G ++ [(i : Int)]) G) L
    else if clsOf (L.getD i z41).f0 = 23 then
      if 0 < (rowI (ps.getD i 0) G).length then hard1 ps n (i + 1) (putI (ps.getD i 0) ((rowI (ps.getD i 0) G).take ((rowI (ps.getD i 0) G).length - 1)) G) L
      else hard1 ps n (i + 1) G (fixL L i)
    else hard1 ps n (i + 1) G L := rfl
theorem Kp.newer {w w2 w3 : World} {g : Nat} {ok : Nat → Prop} (h : Kp w w2 g ok) (hs : w2.heap.size ≤ w3.heap.size) (hm : ∀ k, k < w.heap.size → k < w2.heap.size → w3.heap[k]? = w2.heap[k]?) : Kp w w3 g ok :=
  ⟨Nat.le_trans h.1 hs, fun k o hk hg ho => have h1 := h.2 k o hk hg ho; (hm k (blk_lt hk) (blk_lt h1)).trans h1⟩
theorem class_f (a c : Int) (h : clsOf a = c) : props_Class.f a = some c := by rw [← h]; rfl
/-- The two lists of groups: where all is in range. -/
theorem groups_ok {G : List (Int × List Int)} {i : Nat} (h : ∀ kl, kl ∈ G → kl.2.length ≤ i ∧ ∀ x, x ∈ kl.2 → 0 ≤ x ∧ x < (i : Int)) (k : Int) {l : List Int} (hl : l.length ≤ i + 1 ∧ ∀ x, x ∈ l → 0 ≤ x ∧ x < ((i + 1 : Nat) : Int)) :
    ∀ kl, kl ∈ putI k l G → kl.2.length ≤ i + 1 ∧ ∀ x, x ∈ kl.2 → 0 ≤ x ∧ x < ((i + 1 : Nat) : Int) := by
  intro kl hkl
  obtain ⟨q, hq, he⟩ := List.getElem_of_mem hkl
  have h1 : (putI k l G)[q]? = some kl := by rw [List.getElem?_eq_getElem hq, he]
  rw [putI_get] at h1
  by_cases hs : q = slot k G
  · rw [if_pos hs] at h1
    obtain rfl := Option.some.inj h1
    exact hl
  · rw [if_neg hs] at h1
    have := h kl (List.mem_of_getElem? h1)
    exact ⟨by omega, fun x hx => by have := this.2 x hx; omega⟩
theorem row_ok {G : List (Int × List Int)} {i : Nat} (h : ∀ kl, kl ∈ G → kl.2.length ≤ i ∧ ∀ x, x ∈ kl.2 → 0 ≤ x ∧ x < (i : Int)) (k : Int) : (rowI k G).length ≤ i ∧ ∀ x, x ∈ rowI k G → 0 ≤ x ∧ x < (i : Int) := by
  unfold rowI
  cases hl : lookI k G 0 with
  | none => simp
  | some y =>
    obtain ⟨j, l⟩ := y
    have := (lookI_lt k G 0 j l hl).2.2
    exact h (k, l) (List.mem_of_getElem? this)
theorem row_snoc {l : List Int} {i : Nat} (h : l.length ≤ i ∧ ∀ x, x ∈ l → 0 ≤ x ∧ x < (i : Int)) : (l ++ [(i : Int)]).length ≤ i + 1 ∧ ∀ x, x ∈ l ++ [(i : Int)] → 0 ≤ x ∧ x < ((i + 1 : Nat) : Int) := by
  refine ⟨by simp; omega, fun x hx => ?_⟩
  rcases List.mem_append.1 hx with h1 | h1
  · have := h.2 x h1; omega
  · rw [List.mem_singleton.1 h1]; omega
theorem row_take {l : List Int} {i : Nat} (h : l.length ≤ i ∧ ∀ x, x ∈ l → 0 ≤ x ∧ x < (i : Int)) (m : Nat) : (l.take m).length ≤ i + 1 ∧ ∀ x, x ∈ l.take m → 0 ≤ x ∧ x < ((i + 1 : Nat) : Int) :=
  ⟨by simp; omega, fun x hx => by have := h.2 x (List.mem_of_mem_take hx); omega⟩
theorem putI_len {α : Type} (k : Int) (v : α) (G : List (Int × α)) : (putI k v G).length ≤ G.length + 1 := by
  unfold putI
  split
  · rw [setI_length]; omega
  · simp
theorem zero_ints : ∀ W, (zeroValue 62).run Tryd.prog W = .ok (.slice none 0 0) W := fun W => by kernel_rfl
set_option maxHeartbeats 8000000 in
set_option maxRecDepth 100000 in
theorem harden_calls (w0 w : World) (g : Nat) (ok : Nat → Prop) (S : Sp) (vs vo vl vp vn : Value) (hV : SpV w0 w g ok S vs vo vl vp vn) (hB : Below w0.heap.size w0 w) (hl : S.L.length ≤ 1000000000000) (hp : S.pieces.length = S.L.length) :
    Calls Tryd.prog 42 #[.pointer (some ⟨g, 0, none⟩)] w fun e' w' => e' = .returned (.tuple #[]) ∧ SpV w0 w' g ok S.harden vs vo vl vp vn ∧ Below w0.heap.size w0 w' ∧ Kp w w' g ok := by
  obtain ⟨Al, cl, rfl⟩ := Kd.R_slice hV.L
  obtain ⟨Ap, cp, rfl⟩ := Kd.R_slice hV.pieces
  have HV := Aside0.mk hV.bound
  obtain ⟨hc0, hc1, hc2, hc3, hc4, hc5, hc6, hc7, hc8, hc9, hc10, hc11, hc12, hc13, hc14, hc15, hcf⟩ := sp_cells (hV.alloc (.map #[] 0)).blk
  have HG := Aside0.mk hV.lt
  have HB := Aside0.mk hB
  have HW0 := Aside0.mk hB.size
  have HL := Aside0.mk hl
  have HP := Aside0.mk hp
  have HDN := Aside0.mk (show S.harden = { S with L := markL (hard1 S.pieces S.L.length 0 [] S.L).2 ((hard1 S.pieces S.L.length 0 [] S.L).1.flatMap (·.2)) } from rfl)
  clear hV hB hl hp
  have hmm := @run_makeMap Tryd.prog
  go_enter Tryd.func42, Tryd.ntmps42
  go_wp2
  clear hc0 hc1 hc2 hc3 hc4 hc5 hc6 hc7 hc8 hc9 hc10 hc11 hc12 hc13 hc14 hc15 hcf hmm
  go_loopg [18] S.L.length (fun gk v18 wr => ∃ (i : Nat) (G : List (Int × List Int)) (M : List (Int × Value)) (own : Nat → Nat) (L : List Pos), v18 = .int .i64 (i : Int) ∧
    Aside0 (gk = S.L.length - i ∧ i ≤ S.L.length ∧ L.length = S.L.length ∧ hard1 S.pieces S.L.length 0 [] S.L = hard1 S.pieces (S.L.length - i) i G L ∧ (∀ kl, kl ∈ G → kl.2.length ≤ i ∧ ∀ x, x ∈ kl.2 → 0 ≤ x ∧ x < (i : Int)) ∧ G.length ≤ i) ∧
    Aside0 (SpV w0 wr g (fun k => ok k ∧ k < w.heap.size) { S with L := L } vs vo (.slice Al S.L.length cl) (.slice Ap S.pieces.length cp) vn) ∧ Aside0 (GV wr w.heap.size w.heap.size G M own) ∧ Aside0 (Below w0.heap.size w0 wr) ∧ Aside0 (Kp w wr g ok))
  case atStart => exact ⟨0, [], [], fun _ => 0, S.L, rfl, ⟨rfl, by omega, rfl, rfl, by simp, by simp⟩, ⟨HV.out.alloc _⟩, ⟨GV.made w⟩, ⟨below_alloc HB.out _⟩, ⟨(Kp.refl w g ok).alloc _⟩⟩
  case round =>
    clear HV HB
    obtain ⟨i, G, M, own, L, rfl, HQ, HV, HGV, HB, HKP⟩ := hrel
    by_cases hlt : i < S.L.length
    · have hm : S.L.length ≤ 9223372036854775807 := by have := HL.out; omega
      obtain ⟨lb, capl, hvl, hlb, _, _⟩ := Kd.R_form HV.out.L (by show 0 < L.length; rw [HQ.out.2.2.1]; omega)
      obtain ⟨rfl, -, rfl⟩ : Al = some ⟨lb, 0, none⟩ ∧ S.L.length = L.length ∧ cl = capl := by injection hvl with h1 h2 h3; exact ⟨h1, h2, h3⟩
      obtain ⟨pb, capp, hvp, hpb, _, _⟩ := Kd.R_form HV.out.pieces (by show 0 < S.pieces.length; rw [HP.out]; omega)
      obtain ⟨rfl, -, rfl⟩ : Ap = some ⟨pb, 0, none⟩ ∧ S.pieces.length = S.pieces.length ∧ cp = capp := by injection hvp with h1 h2 h3; exact ⟨h1, h2, h3⟩
      clear hvl hvp
      obtain ⟨hx0, hx1, hx2, hxf⟩ := HV.out.place (i := i) rfl (by show i < L.length; rw [HQ.out.2.2.1]; exact hlt)
      have hpi : wr.cell? ⟨pb, i, none⟩ = some (.int .i64 (S.pieces.getD i 0)) := by
        obtain ⟨c, hcl, hM, hc, hf⟩ := Kd.R_elem HV.out.pieces 0 (i : Int) (by omega) (by have := HP.out; show (i : Int) < S.pieces.length; omega)
        rw [Int.toNat_natCast] at hM hc
        have hM' : c = [.int .i64 (S.pieces.getD i 0)] := hM
        subst hM'
        have := hc 0 _ rfl
        simpa [Kd.int, Kd.scalar] using this
      obtain ⟨p, hpd⟩ : ∃ p, L.getD i z41 = p := ⟨_, rfl⟩
      obtain ⟨pc, hpc⟩ : ∃ pc, S.pieces.getD i 0 = pc := ⟨_, rfl⟩
      have hx0' : wr.cell? ⟨lb, i * 3, none⟩ = some (.int .i32 p.f0) := by rw [← hpd]; exact hx0
      have hx1' : wr.cell? ⟨lb, i * 3 + 1, none⟩ = some (.int .i64 p.f1) := by rw [← hpd]; exact hx1
      have hx2' : wr.cell? ⟨lb, i * 3 + 2, none⟩ = some (.bool p.f2) := by rw [← hpd]; exact hx2
      rw [hpc] at hpi
      have hst : hard1 S.pieces (S.L.length - i) i G L = _ := (congrArg (fun n => hard1 S.pieces n i G L) (show S.L.length - i = S.L.length - (i + 1) + 1 by omega)).trans (hard1_step S.pieces (S.L.length - (i + 1)) i G L)
      rw [hpd, hpc] at hst
      have HST := Aside0.mk hst
      have HPD := Aside0.mk hpd
      have hga : ∀ (o : Obj) (j : Nat), (wr.alloc o).cell? ⟨g, j, none⟩ = wr.cell? ⟨g, j, none⟩ := fun o j => World.cell?_alloc_lt wr o ⟨g, j, none⟩ HV.out.lt
      have hpa : ∀ (o : Obj) (j : Nat), (wr.alloc o).cell? ⟨pb, j, none⟩ = wr.cell? ⟨pb, j, none⟩ := fun o j => World.cell?_alloc_lt wr o ⟨pb, j, none⟩ (Kd.R_lt HV.out.pieces pb (by simp [Value.ownBlock]))
      have hlp : i < S.pieces.length := by rw [HP.out]; exact hlt
      clear hx0 hx1 hx2 hxf hpd hpc hst hlb hpb
      obtain ⟨hc0, hc1, hc2, hc3, hc4, hc5, hc6, hc7, hc8, hc9, hc10, hc11, hc12, hc13, hc14, hc15, hcf⟩ := sp_cells HV.out.blk
      by_cases h0 : pc = 0
      · have e0 : (pc == 0) = true := by simpa using h0
        have hst := HST.out
        rw [if_pos h0] at hst
        clear HST h0
        have HST := Aside0.mk hst
        clear hst
        go_wp2
        go_roundg (S.L.length - (i + 1))
        case measure => have := HQ.out.1; omega
        case rel =>
          obtain ⟨q1, q2, q3, q4, q5, q6⟩ := HQ.out
          exact ⟨i + 1, G, M, own, L, by go_num, ⟨rfl, by omega, q3, q4.trans HST.out, fun kl h => ⟨by have := (q5 kl h).1; omega, fun x hx => by have := (q5 kl h).2 x hx; omega⟩, by omega⟩, ⟨HV.out.alloc _⟩, ⟨HGV.out.alloc _⟩, ⟨below_alloc HB.out _⟩, ⟨HKP.out.alloc _⟩⟩
      · have e0 : (pc == 0) = false := by simpa using h0
        have hst := HST.out
        rw [if_neg h0] at hst
        obtain ⟨c, hcd⟩ : ∃ c, clsOf p.f0 = c := ⟨_, rfl⟩
        rw [hcd] at hst
        have HCD := Aside0.mk (class_f _ _ hcd)
        obtain ⟨Av, cv, hvv⟩ := Kd.R_slice (HGV.out.row pc)
        have HVV := Aside0.mk hvv
        have HCV := Aside0.mk (Kd.R_reads' (hvv ▸ HGV.out.row pc)).2.1
        clear HST h0 hcd hvv
        by_cases h20 : c = 20 ∨ c = 21 ∨ c = 22
        · rw [if_pos h20] at hst
          have HST := Aside0.mk hst
          clear hst
          rcases h20 with rfl | rfl | rfl
          all_goals
            go_wp2_with (first
              | (go_at_call 51; refine (props_Class.calls p.f0 _ _ HCD.out).mono ?_; rintro e w2 ⟨rfl, hb⟩; have HV2 := Aside0.mk ((HV.out.alloc _).below hb); have HGV2 := Aside0.mk ((HGV.out.alloc _).below hb); have HB2 := Aside0.mk (below_step (below_alloc HB.out _) hb); have HK2 := Aside0.mk ((HKP.out.alloc _).below hb); clear hb; clear hc0 hc1 hc2 hc3 hc4 hc5 hc6 hc7 hc8 hc9 hc10 hc11 hc12 hc13 hc14 hc15 hcf; obtain ⟨hc0, hc1, hc2, hc3, hc4, hc5, hc6, hc7, hc8, hc9, hc10, hc11, hc12, hc13, hc14, hc15, hcf⟩ := sp_cells HV2.out.blk; have hlk := HGV2.out.run_lookup (P := Tryd.prog) (t := 111) Tryd.underlying111 Tryd.underlying3 zero_ints pc; rw [HVV.out] at hlk)
              | ((with_reducible refine gate_builtin (b := .append) (xs := #[.tmp 43, .tmp 45]) rfl ?_); at_builtin; refine Kd.R_append kI (w0 := w2) w.heap.size rfl (.tmp 43) (.tmp 45) 62 3 (.int .i64 0) 8 rfl Tryd.underlying62 info_int rfl (by decide) (by decide) (.slice Av (rowI pc G).length cv) (rowI pc G) (i : Int) [.int .i64 (i : Int)] (fun q => ownUp w2 (slot pc G) own q = slot pc G) (fun _ => False) rfl rfl rfl (fun _ h => h.elim) ?fr ?HO ?HB ?ba ?le ?_; (case HO => have h := HGV2.out.row pc; rw [HVV.out] at h; exact h); (case fr => intro k hk; show ownUp w2 (slot pc G) own k = slot pc G; unfold ownUp; rw [if_pos hk]); (case HB => exact Below.refl _ _); (case ba => exact HK2.out.1); (case le => have := (row_ok HQ.out.2.2.2.2.1 pc).1; have := HL.out; omega); intro v1 w3 hr hb hg hat; obtain ⟨A1, c1, rfl⟩ := Kd.R_slice hr; rw [List.length_append, List.length_singleton] at hr ⊢; have hpu := HGV2.out.put pc hr (by rw [HVV.out]; exact hg); have hup := run_mapUpdate (P := Tryd.prog) (t := 111) Tryd.underlying111 Tryd.underlying3 hpu.1 pc (.slice A1 ((rowI pc G).length + 1) c1); obtain ⟨w4, hw4⟩ : ∃ w4, w4 = setM w3 w.heap.size (putI pc (.slice A1 ((rowI pc G).length + 1) c1) M) := ⟨_, rfl⟩; rw [← hw4] at hup; have HPU := Aside0.mk hpu.2; have HW4 := Aside0.mk hw4; have HG3 := Aside0.mk hg; have HB3 := Aside0.mk hb; clear hpu hr hb hg hat hw4))
            have hown : ∀ k, (Value.slice Av (rowI pc G).length cv).ownBlock = some k → w.heap.size ≤ k := by
              have h := HGV2.out.row pc
              rw [HVV.out] at h
              exact Kd.R_base h
            have hm3 : ∀ k, k < w.heap.size → k < w2.heap.size → w4.heap[k]? = w2.heap[k]? := fun k hk hk2 => by
              rw [HW4.out, setM_other _ _ _ _ (by omega)]
              exact HG3.out.block k hk2 (fun e => by have := hown k e.symm; omega)
            have hsz : w2.heap.size ≤ w4.heap.size := by rw [HW4.out, setM_size]; exact HG3.out.size
            have HV4 := HV2.out.step HG.out hm3
            have HB4 : Below w0.heap.size w0 w4 := by rw [HW4.out]; exact below_setM (HB2.out.trans (HB3.out.mono HW0.out)) HW0.out _
            have HK4 := HK2.out.newer hsz hm3
            have HGV4 := HPU.out
            rw [← HW4.out] at HGV4
            go_roundg (S.L.length - (i + 1))
            case measure => have := HQ.out.1; omega
            case rel =>
              obtain ⟨q1, q2, q3, q4, q5, q6⟩ := HQ.out
              have hr := row_ok q5 pc
              exact ⟨i + 1, _, _, _, L, by go_num, ⟨rfl, by omega, q3, q4.trans HST.out, groups_ok q5 pc (row_snoc hr), by have := putI_len pc (rowI pc G ++ [(i : Int)]) G; omega⟩, ⟨HV4⟩, ⟨HGV4⟩, ⟨HB4⟩, ⟨HK4⟩⟩
        · rw [if_neg h20] at hst
          have f20 : (c == 20) = false := by simp; omega
          have f21 : (c == 21) = false := by simp; omega
          have f22 : (c == 22) = false := by simp; omega
          clear h20
          by_cases h23 : c = 23
          · rw [if_pos h23] at hst
            subst h23
            by_cases hn : 0 < (rowI pc G).length
            · rw [if_pos hn] at hst
              have HST := Aside0.mk hst
              obtain ⟨n, hnd⟩ : ∃ n, (rowI pc G).length = n + 1 := ⟨(rowI pc G).length - 1, by omega⟩
              have HND := Aside0.mk hnd
              have hvv := HVV.out
              rw [hnd] at hvv
              have hcvn := HCV.out
              rw [hnd] at hcvn
              have HVV := Aside0.mk hvv
              obtain ⟨i0, hi0, -⟩ := Option.map_eq_some_iff.1 info_int
              have hcut := cut_to (P := Tryd.prog) 62 3 .i64 Tryd.underlying62 hi0 Av (n + 1) cv (n : Int) (by omega) (by omega) hcvn
              rw [Int.toNat_natCast] at hcut
              have hnb : n < 1000000000000 := by have := (row_ok HQ.out.2.2.2.2.1 pc).1; have := HL.out; have := HQ.out.2.1; omega
              have hw1 : wrap64 (((n + 1 : Nat) : Int) - 1) = (n : Int) := by unfold wrap64; omega
              have hw2 : ((n + 1 : Nat) : Int) - 1 = (n : Int) := by omega
              have hpos : 0 < ((n + 1 : Nat) : Int) := by omega
              clear hst hn hnd hvv hi0
              go_wp2_with (first
                | (go_at_call 51; refine (props_Class.calls p.f0 _ _ HCD.out).mono ?_; rintro e w2 ⟨rfl, hb⟩; have HV2 := Aside0.mk ((HV.out.alloc _).below hb); have HGV2 := Aside0.mk ((HGV.out.alloc _).below hb); have HB2 := Aside0.mk (below_step (below_alloc HB.out _) hb); have HK2 := Aside0.mk ((HKP.out.alloc _).below hb); clear hb; clear hc0 hc1 hc2 hc3 hc4 hc5 hc6 hc7 hc8 hc9 hc10 hc11 hc12 hc13 hc14 hc15 hcf; obtain ⟨hc0, hc1, hc2, hc3, hc4, hc5, hc6, hc7, hc8, hc9, hc10, hc11, hc12, hc13, hc14, hc15, hcf⟩ := sp_cells HV2.out.blk; have hlk := HGV2.out.run_lookup (P := Tryd.prog) (t := 111) Tryd.underlying111 Tryd.underlying3 zero_ints pc; rw [HVV.out] at hlk; have hrow := HGV2.out.row pc; rw [HVV.out] at hrow; have htk := Kd.R_take hrow (m := n) (by have := HND.out; omega); have hpu := HGV2.out.put pc htk (World.grownBy.refl w2 _); have hup := run_mapUpdate (P := Tryd.prog) (t := 111) Tryd.underlying111 Tryd.underlying3 hpu.1 pc (.slice Av n cv); obtain ⟨w4, hw4⟩ : ∃ w4, w4 = setM w2 w.heap.size (putI pc (.slice Av n cv) M) := ⟨_, rfl⟩; rw [← hw4] at hup; have HPU := Aside0.mk hpu.2; have HW4 := Aside0.mk hw4; clear hrow htk hpu hw4))
              have hm3 : ∀ k, k < w.heap.size → k < w2.heap.size → w4.heap[k]? = w2.heap[k]? := fun k hk hk2 => by
                rw [HW4.out, setM_other _ _ _ _ (by omega)]
              have hsz : w2.heap.size ≤ w4.heap.size := by rw [HW4.out, setM_size]; exact Nat.le_refl _
              have HV4 := HV2.out.step HG.out hm3
              have HB4 : Below w0.heap.size w0 w4 := by rw [HW4.out]; exact below_setM HB2.out HW0.out _
              have HK4 := HK2.out.newer hsz hm3
              have HGV4 := HPU.out
              rw [← HW4.out] at HGV4
              have hst := HST.out
              rw [HND.out, Nat.add_sub_cancel] at hst
              go_roundg (S.L.length - (i + 1))
              case measure => have := HQ.out.1; omega
              case rel =>
                obtain ⟨q1, q2, q3, q4, q5, q6⟩ := HQ.out
                have hr := row_ok q5 pc
                exact ⟨i + 1, _, _, _, L, by go_num, ⟨rfl, by omega, q3, q4.trans hst, groups_ok q5 pc (row_take hr n), by have := putI_len pc ((rowI pc G).take n) G; omega⟩, ⟨HV4⟩, ⟨HGV4⟩, ⟨HB4⟩, ⟨HK4⟩⟩
            · rw [if_neg hn] at hst
              have HST := Aside0.mk hst
              have hnd : (rowI pc G).length = 0 := by omega
              have hvv := HVV.out
              rw [hnd] at hvv
              have HVV := Aside0.mk hvv
              have hla : ∀ (o : Obj) (j : Nat), (wr.alloc o).cell? ⟨lb, j, none⟩ = wr.cell? ⟨lb, j, none⟩ := fun o j => World.cell?_alloc_lt wr o ⟨lb, j, none⟩ (Kd.R_lt HV.out.L lb (by simp [Value.ownBlock]))
              clear hst hn hnd hvv
              go_wp2_with (first
                | (go_at_call 51; refine (props_Class.calls p.f0 _ _ HCD.out).mono ?_; rintro e w2 ⟨rfl, hb⟩; have HV2 := Aside0.mk ((HV.out.alloc _).below hb); have HGV2 := Aside0.mk ((HGV.out.alloc _).below hb); have HB2 := Aside0.mk (below_step (below_alloc HB.out _) hb); have HK2 := Aside0.mk ((HKP.out.alloc _).below hb); clear hb; clear hc0 hc1 hc2 hc3 hc4 hc5 hc6 hc7 hc8 hc9 hc10 hc11 hc12 hc13 hc14 hc15 hcf; obtain ⟨hc0, hc1, hc2, hc3, hc4, hc5, hc6, hc7, hc8, hc9, hc10, hc11, hc12, hc13, hc14, hc15, hcf⟩ := sp_cells HV2.out.blk; have hlk := HGV2.out.run_lookup (P := Tryd.prog) (t := 111) Tryd.underlying111 Tryd.underlying3 zero_ints pc; rw [HVV.out] at hlk; obtain ⟨hx0, hx1, hx2, hxf⟩ := HV2.out.place (i := i) rfl (by show i < L.length; rw [HQ.out.2.2.1]; exact hlt); have hxf0 := hxf 0; rw [Nat.add_zero] at hxf0; clear hx1 hx2 hxf hx0' hx1' hx2'; have hll : i < L.length := by rw [HQ.out.2.2.1]; exact hlt))
              have hfx := HV2.out.fix (i := i) rfl (by show i < L.length; rw [HQ.out.2.2.1]; exact hlt)
              have hlb : w0.heap.size ≤ lb := Kd.R_base HV2.out.L lb (by simp [Value.ownBlock])
              have hlw : lb < w.heap.size := (HV2.out.L.1 lb (by simp [Value.ownBlock])).2
              have HGV4 : GV (w2.setCell ⟨lb, i * 3, none⟩ (.int .i32 65533)) w.heap.size w.heap.size G M own := HGV2.out.step fun k hk _ => Below.heap_setCell w2 ⟨lb, i * 3, none⟩ _ k (by show k ≠ lb; omega)
              have HB4 : Below w0.heap.size w0 (w2.setCell ⟨lb, i * 3, none⟩ (.int .i32 65533)) := HB2.out.setCell (p := ⟨lb, i * 3, none⟩) hlb _
              have HK4 := HK2.out.grown hfx.2 (fun k hk => ⟨(HV2.out.L.1 k hk).1, tPos, by simp, Kd.R_typed HV2.out.L k hk⟩)
              go_roundg (S.L.length - (i + 1))
              case measure => have := HQ.out.1; omega
              case rel =>
                obtain ⟨q1, q2, q3, q4, q5, q6⟩ := HQ.out
                exact ⟨i + 1, G, M, own, fixL L i, by go_num, ⟨rfl, by omega, (fixL_len L i).trans q3, q4.trans HST.out, fun kl h => ⟨by have := (q5 kl h).1; omega, fun x hx => by have := (q5 kl h).2 x hx; omega⟩, by omega⟩, ⟨hfx.1⟩, ⟨HGV4⟩, ⟨HB4⟩, ⟨HK4⟩⟩
          · rw [if_neg h23] at hst
            have HST := Aside0.mk hst
            have f23 : (c == 23) = false := by simp; omega
            clear hst h23
            go_wp2_with (first
              | (go_at_call 51; refine (props_Class.calls p.f0 _ _ HCD.out).mono ?_; rintro e w2 ⟨rfl, hb⟩; have HV2 := Aside0.mk ((HV.out.alloc _).below hb); have HGV2 := Aside0.mk ((HGV.out.alloc _).below hb); have HB2 := Aside0.mk (below_step (below_alloc HB.out _) hb); have HK2 := Aside0.mk ((HKP.out.alloc _).below hb); clear hb; clear hc0 hc1 hc2 hc3 hc4 hc5 hc6 hc7 hc8 hc9 hc10 hc11 hc12 hc13 hc14 hc15 hcf; obtain ⟨hc0, hc1, hc2, hc3, hc4, hc5, hc6, hc7, hc8, hc9, hc10, hc11, hc12, hc13, hc14, hc15, hcf⟩ := sp_cells HV2.out.blk; have hlk := HGV2.out.run_lookup (P := Tryd.prog) (t := 111) Tryd.underlying111 Tryd.underlying3 zero_ints pc; rw [HVV.out] at hlk))
            go_roundg (S.L.length - (i + 1))
            case measure => have := HQ.out.1; omega
            case rel =>
              obtain ⟨q1, q2, q3, q4, q5, q6⟩ := HQ.out
              exact ⟨i + 1, G, M, own, L, by go_num, ⟨rfl, by omega, q3, q4.trans HST.out, fun kl h => ⟨by have := (q5 kl h).1; omega, fun x hx => by have := (q5 kl h).2 x hx; omega⟩, by omega⟩, HV2, HGV2, HB2, HK2⟩
    · obtain rfl : i = S.L.length := by have := HQ.out.2.1; omega
      have hrg := run_range_at (P := Tryd.prog) (t := 111) Tryd.underlying111 HGV.out.at_
      have hbw : w.heap.size < wr.heap.size := by have := HGV.out.at_; unfold At at this; exact blk_lt this
      have hend : hard1 S.pieces S.L.length 0 [] S.L = (G, L) := by
        have := HQ.out.2.2.2.1
        rw [Nat.sub_self] at this
        exact this
      have HE := Aside0.mk hend
      have HIT := Aside0.mk (heap_alloc_new wr (.mapIter (some w.heap.size) M.length #[] M.length))
      have HBW := Aside0.mk hbw
      clear hend hbw
      go_wp2
      obtain ⟨it, hit⟩ : ∃ it, it = wr.heap.size := ⟨_, rfl⟩
      have HIE := Aside0.mk hit
      rw [← hit] at HIT HBW ⊢
      clear hit hrg
      obtain ⟨wo, rfl⟩ : ∃ wo : World, wo = wr := ⟨_, rfl⟩
      go_loopg [8] M.length (fun gk2 v8 wq => ∃ (seen : Array Nat) (done : List Int),
        Aside0 (gk2 = M.length - seen.size ∧ (∀ j ∈ seen.toList, j < M.length) ∧ seen.toList.Nodup ∧ (∀ x : Int, x ∈ done ↔ ∃ j ∈ seen.toList, ∃ y, G[j]? = some y ∧ x ∈ y.2)) ∧
        Aside0 (wq.heap[it]? = some (.mapIter (some w.heap.size) M.length seen M.length)) ∧
        Aside0 (SpV w0 wq g (fun k => ok k ∧ k < w.heap.size) { S with L := markL L done } vs vo (.slice Al S.L.length cl) (.slice Ap S.pieces.length cp) vn) ∧ Aside0 (GV wq w.heap.size w.heap.size G M own) ∧ Aside0 (Below w0.heap.size w0 wq) ∧ Aside0 (Kp w wq g ok))
      case atStart => exact ⟨#[], [], ⟨rfl, by simp, by simp, by simp⟩, HIT, ⟨by rw [markL_nil]; exact HV.out.alloc _⟩, ⟨HGV.out.alloc _⟩, ⟨below_alloc HB.out _⟩, ⟨HKP.out.alloc _⟩⟩
      case round =>
        clear HV HGV HB HKP HIT
        obtain ⟨seen, done, HS, HIT, HV, HGV, HB, HKP⟩ := hrel
        obtain ⟨wq, rfl⟩ : ∃ wq : World, wq = wr := ⟨_, rfl⟩
        have hzz := setBlock_size
        rcases run_next_at (P := Tryd.prog) wq 0 it w.heap.size M.length M.length seen (ents M) M.length HIT.out HGV.out.at_ (ents_hold M) (Nat.le_refl _) with ⟨hz, hnx⟩ | ⟨e, he, w1, hw1, hnx⟩
        · have HZ := Aside0.mk hz
          clear hz hzz
          go_wp2
          go_end0
          have hdone : S.harden = { S with L := markL L done } := by
            rw [HDN.out, HE.out]
            have : markL L (G.flatMap (·.2)) = markL L done := markL_congr L _ _ (fun x => by
              rw [HS.out.2.2.2 x, List.mem_flatMap]
              constructor
              · rintro ⟨y, hy, hx⟩
                obtain ⟨j, hj, rfl⟩ := List.getElem_of_mem hy
                exact ⟨j, left_none HZ.out j (by rw [HGV.out.len]; exact hj), _, List.getElem?_eq_getElem hj, hx⟩
              · rintro ⟨j, _, y, hy, hx⟩
                exact ⟨y, List.mem_of_getElem? hy, hx⟩)
            simp only [this]
          exact ⟨rfl, by rw [hdone]; exact HV.out.mono (fun k hk => hk.1), HB.out, HKP.out⟩
        · clear hzz
          obtain ⟨hme, hns⟩ := left_some he
          obtain ⟨j, x, hx, rfl⟩ := ents_mem hme
          have hjl : j < M.length := (List.getElem?_eq_some_iff.1 hx).1
          obtain ⟨y, hy⟩ : ∃ y, G[j]? = some y := ⟨_, List.getElem?_eq_getElem (by rw [← HGV.out.len]; exact hjl)⟩
          obtain ⟨wz, hwz⟩ : ∃ wz, wz = setBlock w1 it (.mapIter (some w.heap.size) M.length (seen.push j) M.length) := ⟨_, rfl⟩
          rw [← hwz] at hnx
          have hw1h : w1.heap = wq.heap := by rcases hw1 with rfl | rfl <;> rfl
          have hV1 : SpV w0 w1 g (fun k => ok k ∧ k < w.heap.size) { S with L := markL L done } vs vo (.slice Al S.L.length cl) (.slice Ap S.pieces.length cp) vn := HV.out.step HG.out (fun k _ _ => by rw [hw1h])
          have hGV1 : GV w1 w.heap.size w.heap.size G M own := HGV.out.step (fun k _ _ => by rw [hw1h])
          have hB1 : Below w0.heap.size w0 w1 := by rcases hw1 with rfl | rfl; exact HB.out; exact below_drew1 HB.out
          have hK1 : Kp w w1 g ok := HKP.out.newer (by rw [hw1h]; exact Nat.le_refl _) (fun k _ _ => by rw [hw1h])
          have hIT1 : w1.heap[it]? = some (.mapIter (some w.heap.size) M.length seen M.length) := by rw [hw1h]; exact HIT.out
          have HVz := Aside0.mk (hV1.step (w1 := wz) HG.out (fun k hk _ => by rw [hwz]; exact setBlock_other _ _ _ _ (by have := HBW.out; omega)))
          have HGVz := Aside0.mk (show GV wz w.heap.size w.heap.size G M own by rw [hwz]; exact hGV1.iter hIT1 (fun _ _ e => by cases e) (by have := HBW.out; omega) _)
          have HBz := Aside0.mk (show Below w0.heap.size w0 wz by rw [hwz]; exact below_setBlock hB1 (by have := HBW.out; have := HW0.out; omega) _)
          have HKz := Aside0.mk (show Kp w wz g ok by rw [hwz]; exact hK1.newer (by rw [setBlock_size]; exact Nat.le_refl _) (fun k hk _ => setBlock_other _ _ _ _ (by have := HBW.out; omega)))
          have HITz := Aside0.mk (show wz.heap[it]? = some (.mapIter (some w.heap.size) M.length (seen.push j) M.length) by rw [hwz]; exact setBlock_at (blk_lt hIT1) _)
          have hent := run_entry_at (P := Tryd.prog) wz it w.heap.size M.length seen (ents M) M.length ⟨.int .i64 x.1, x.2, j⟩ HITz.out HGVz.out.at_ hme (ents_nodup M)
          have HS2 := Aside0.mk (show (∀ q ∈ (seen.push j).toList, q < M.length) ∧ (seen.push j).toList.Nodup by
            refine ⟨fun q hq => ?_, ?_⟩
            · simp at hq
              rcases hq with hq | rfl
              · exact HS.out.2.1 q (by simpa using hq)
              · exact hjl
            · rw [Array.toList_push, List.nodup_append]
              exact ⟨HS.out.2.2.1, by simp, fun a ha b hb => by rintro rfl; rw [List.mem_singleton.1 hb] at ha; exact hns ha⟩)
          have HJ := Aside0.mk hjl
          have HYJ := Aside0.mk hy
          have HRJ := Aside0.mk (fun (W : World) (hW : GV W w.heap.size w.heap.size G M own) => hW.rows j x y hx hy)
          obtain ⟨Ar, cr, hxv⟩ := Kd.R_slice (HGVz.out.rows j x y hx hy)
          obtain ⟨xk, xv⟩ := x
          obtain ⟨yk, l⟩ := y
          simp only at hxv hent hnx HRJ
          subst hxv
          clear HV HGV HB HKP HIT hV1 hGV1 hB1 hK1 hIT1 hwz hw1 hw1h he hme hns hx hy hjl
          go_wp2
          go_loopg [80] l.length (fun gk3 v80 w5 => ∃ (q : Nat), v80 = .int .i64 (q : Int) ∧ Aside0 (gk3 = l.length - q ∧ q ≤ l.length) ∧ Aside0 (w5.heap[it]? = some (.mapIter (some w.heap.size) M.length (seen.push j) M.length)) ∧
            Aside0 (SpV w0 w5 g (fun k => ok k ∧ k < w.heap.size) { S with L := markL L (done ++ l.take q) } vs vo (.slice Al S.L.length cl) (.slice Ap S.pieces.length cp) vn) ∧ Aside0 (GV w5 w.heap.size w.heap.size G M own) ∧ Aside0 (Below w0.heap.size w0 w5) ∧ Aside0 (Kp w w5 g ok))
          case atStart => exact ⟨0, rfl, ⟨rfl, by omega⟩, HITz, ⟨by simpa using HVz.out⟩, HGVz, HBz, HKz⟩
          case round =>
            clear HVz HGVz HBz HKz HITz hent hnx
            obtain ⟨q, rfl, HK3, HIT, HV, HGV, HB, HKP⟩ := hrel
            have hyb := HQ.out.2.2.2.2.1 (yk, l) (List.mem_of_getElem? HYJ.out)
            by_cases hlt : q < l.length
            · have hm : l.length ≤ 9223372036854775807 := by have h1 : l.length ≤ S.L.length := hyb.1; have := HL.out; omega
              have hrow := HRJ.out wr HGV.out
              obtain ⟨rb, capr, hvr, hrb, _, _⟩ := Kd.R_form hrow (by omega)
              obtain ⟨rfl, -, rfl⟩ : Ar = some ⟨rb, 0, none⟩ ∧ l.length = l.length ∧ cr = capr := by injection hvr with h1 h2 h3; exact ⟨h1, h2, h3⟩
              have hri : wr.cell? ⟨rb, q, none⟩ = some (.int .i64 (l.getD q 0)) := by
                obtain ⟨c, hcl, hM, hc, hf⟩ := Kd.R_elem hrow 0 (q : Int) (by omega) (by omega)
                rw [Int.toNat_natCast] at hM hc
                have hM' : c = [.int .i64 (l.getD q 0)] := hM
                subst hM'
                have := hc 0 _ rfl
                simpa [Kd.int, Kd.scalar] using this
              have hmem : l.getD q 0 ∈ l := by
                rw [List.getD_eq_getElem?_getD, List.getElem?_eq_getElem hlt]
                exact List.getElem_mem _
              have hmb := hyb.2 _ hmem
              obtain ⟨m, hmd⟩ : ∃ m : Nat, l.getD q 0 = (m : Int) := ⟨(l.getD q 0).toNat, by omega⟩
              rw [hmd] at hri hmb
              have hmS : m < S.L.length := by omega
              have hlen : (markL L (done ++ l.take q)).length = S.L.length := by rw [markL_len]; exact HQ.out.2.2.1
              have hm2 : S.L.length ≤ 9223372036854775807 := by have := HL.out; omega
              obtain ⟨lb, capl, hvl, hlb, _, _⟩ := Kd.R_form HV.out.L (by show 0 < (markL L (done ++ l.take q)).length; rw [hlen]; omega)
              obtain ⟨rfl, -, rfl⟩ : Al = some ⟨lb, 0, none⟩ ∧ S.L.length = S.L.length ∧ cl = capl := by injection hvl with h1 h2 h3; exact ⟨h1, rfl, h3⟩
              obtain ⟨hx0, hx1, hx2, hxf⟩ := HV.out.place (i := m) rfl (by show m < (markL L (done ++ l.take q)).length; rw [hlen]; exact hmS)
              have hxf0 := hxf 0
              rw [Nat.add_zero] at hxf0
              have hfx := HV.out.fix (i := m) rfl (by show m < (markL L (done ++ l.take q)).length; rw [hlen]; exact hmS)
              have hfix : fixL (markL L (done ++ l.take q)) m = markL L (done ++ l.take (q + 1)) := by
                rw [markL_fix L _ m (by rw [HQ.out.2.2.1]; exact hmS), List.append_assoc, List.take_succ_eq_append_getElem hlt]
                have : l[q] = (m : Int) := by rw [← hmd, List.getD_eq_getElem?_getD, List.getElem?_eq_getElem hlt]; rfl
                rw [this]
              have hv5 := hfx.1
              simp only [hfix] at hv5
              have HV5 := Aside0.mk hv5
              have HG5 := Aside0.mk hfx.2
              have hlb2 : w0.heap.size ≤ lb := Kd.R_base HV.out.L lb (by simp [Value.ownBlock])
              have hlw : lb < w.heap.size := (HV.out.L.1 lb (by simp [Value.ownBlock])).2
              have HGV5 := Aside0.mk (show GV (wr.setCell ⟨lb, m * 3, none⟩ (.int .i32 65533)) w.heap.size w.heap.size G M own from HGV.out.step fun k hk _ => Below.heap_setCell wr ⟨lb, m * 3, none⟩ _ k (by show k ≠ lb; omega))
              have HB5 := Aside0.mk (show Below w0.heap.size w0 (wr.setCell ⟨lb, m * 3, none⟩ (.int .i32 65533)) from HB.out.setCell (p := ⟨lb, m * 3, none⟩) hlb2 _)
              have HKP5 := Aside0.mk (HKP.out.grown HG5.out (fun k hk => ⟨(HV.out.L.1 k hk).1, tPos, by simp, Kd.R_typed HV.out.L k hk⟩))
              have HIT5 := Aside0.mk (show (wr.setCell ⟨lb, m * 3, none⟩ (.int .i32 65533)).heap[it]? = _ from (Below.heap_setCell wr ⟨lb, m * 3, none⟩ _ it (by show it ≠ lb; have := HBW.out; omega)).trans HIT.out)
              obtain ⟨hc0, hc1, hc2, hc3, hc4, hc5, hc6, hc7, hc8, hc9, hc10, hc11, hc12, hc13, hc14, hc15, hcf⟩ := sp_cells HV.out.blk
              clear hyb hrow hvr hrb hmem hmb hmd hvl hlb hx1 hx2 hxf hfx hfix hv5 hlb2 hlw hlen
              go_wp2
              go_roundg (l.length - (q + 1))
              case measure => have := HK3.out.1; omega
              case rel => exact ⟨q + 1, by go_num, ⟨rfl, by omega⟩, HIT5, HV5, HGV5, HB5, HKP5⟩
            · obtain rfl : q = l.length := by have := HK3.out.2; omega
              have hv5 := HV.out
              rw [List.take_length] at hv5
              have HV5 := Aside0.mk hv5
              clear hyb hv5
              go_wp2
              go_roundg (M.length - (seen.push j).size)
              case measure =>
                have h1 := HS.out.1
                have h2 := nodup_short HS2.out.2 HS2.out.1
                simp at h2 ⊢
                omega
              case rel =>
                refine ⟨seen.push j, done ++ l, ⟨rfl, HS2.out.1, HS2.out.2, fun x => ?_⟩, HIT, HV5, HGV, HB, HKP⟩
                rw [List.mem_append, HS.out.2.2.2 x]
                constructor
                · rintro (⟨a, ha, y, hy, hx⟩ | hx)
                  · exact ⟨a, by simp; left; simpa using ha, y, hy, hx⟩
                  · exact ⟨j, by simp, (yk, l), HYJ.out, hx⟩
                · rintro ⟨a, ha, y, hy, hx⟩
                  simp at ha
                  rcases ha with ha | rfl
                  · exact .inl ⟨a, by simpa using ha, y, hy, hx⟩
                  · rw [HYJ.out] at hy
                    obtain rfl := Option.some.inj hy
                    exact .inr hx
end Go.Proofs.YtlfpjlpaiaonkaaDoor.Sp

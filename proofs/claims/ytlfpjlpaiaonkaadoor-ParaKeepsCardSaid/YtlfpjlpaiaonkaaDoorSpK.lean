/- Layer 13's splitter: the open boxes, from the last to the first. -/
import Derived.Test.YtlfpjlpaiaonkaaDoorSpJ
import Derived.RangeFuncNested
import Derived.RangeFuncBound
import Derived.RangeFuncCalls
import Derived.RangeFuncLeaves
import Derived.Shelf.Abstract
import Derived.Shelf.RegionOpen
import Derived.WalkKit
import Derived.OwnWalkIn
import Derived.TacticsInMore
import Derived.LoopNIn
import Derived.LoopIn
namespace Go.Proofs.YtlfpjlpaiaonkaaDoor.Sp
open Go.RowKit Go.Shelf Go.Proofs.YtlfpjlpaiaonkaaDoorW.PrintWords Go.Proofs.YtlfpjlpaiaonkaaDoorW.PrintLast Go.Proofs.YtlfpjlpaiaonkaaDoorW.PrintMore Go.Proofs.YtlfpjlpaiaonkaaDoorH Go.Proofs.YtlfpjlpaiaonkaaDoor.P Go.Proofs.YtlfpjlpaiaonkaaDoor.Mp
attribute [local go_sem] Oper.semAt_some
set_option linter.unusedVariables false
set_option linter.unusedSimpArgs false
/-- The open boxes lie in their row; the row's value in its box. -/
def RowP (w0 : World) (ok : Nat → Prop) (vn : Value) (xs : List Opn) (Bs : Nat) (W : World) : Prop := Kd.R kOpn tOpn W w0.heap.size ok vn xs ∧ W.heap[Bs]? = some (.cells #[vn] 63 (0, 0))
section
variable {w0 W W' : World} {ok : Nat → Prop} {vn : Value} {xs : List Opn} {Bs : Nat} {row : Option Nat}
/-- A turn of a block that is no cells. -/
theorem R_own {α : Type} {d : Kd α} {e : Nat} {base : Nat} {v : Value} {ys : List α} (h : d.R e W base ok v ys) (hg : W.grownBy W' row) (hr : ∀ r, row = some r → ∃ o : Obj, W.heap[r]? = some o ∧ o.isCells = false) : d.R e W' base ok v ys :=
  Kd.R_mono (Kd.R_move (Kd.R_bound h) (fun j hj => hg.block j hj.2.2.1 (by
    rintro rfl
    obtain ⟨_, _, _, q, _, cells, hc⟩ := hj
    obtain ⟨o, ho, hn⟩ := hr j rfl
    rw [hc] at ho
    injection ho with ho
    subst ho
    simp [Obj.isCells] at hn))) (fun _ hj => hj.1)
theorem S_own' {α : Type} {d : Kd α} {e : Nat} {base : Nat} {v : Value} {ys : List α} (h : Kd.S d e W base ok v ys) (hg : W.grownBy W' row) (hr : ∀ r, row = some r → ∃ o : Obj, W.heap[r]? = some o ∧ o.isCells = false) : Kd.S d e W' base ok v ys :=
  let ⟨f, h⟩ := h; ⟨f, R_own h hg hr⟩
theorem blk_own {k : Nat} {c : Array Value} {q : TypeId} (h : W.heap[k]? = some (.cells c q (0, 0))) (hg : W.grownBy W' row) (hr : ∀ r, row = some r → ∃ o : Obj, W.heap[r]? = some o ∧ o.isCells = false) : W'.heap[k]? = some (.cells c q (0, 0)) :=
  (hg.block k (blk_lt h) (by
    rintro rfl
    obtain ⟨o, ho, hn⟩ := hr k rfl
    rw [h] at ho
    injection ho with ho
    subst ho
    simp [Obj.isCells] at hn)).trans h
theorem RowP.own (h : RowP w0 ok vn xs Bs W) (hg : W.grownBy W' row) (hr : ∀ r, row = some r → ∃ o : Obj, W.heap[r]? = some o ∧ o.isCells = false) : RowP w0 ok vn xs Bs W' := ⟨R_own h.1 hg hr, blk_own h.2 hg hr⟩
theorem RowP.below (h : RowP w0 ok vn xs Bs W) (hb : Below W.heap.size W W') : RowP w0 ok vn xs Bs W' := ⟨Kd.R_below h.1 hb, blk_below h.2 hb⟩
theorem SpV.own {g : Nat} {S : Sp} {vs vo vl vp : Value} (h : SpV w0 W g ok S vs vo vl vp vn) (hg : W.grownBy W' row) (hr : ∀ r, row = some r → ∃ o : Obj, W.heap[r]? = some o ∧ o.isCells = false) : SpV w0 W' g ok S vs vo vl vp vn :=
  ⟨blk_own h.blk hg hr, h.new, h.sty, S_own' h.out hg hr, R_own h.L hg hr, R_own h.pieces hg hr, R_own h.opn hg hr⟩
end
/-- What has come when k rounds are over. -/
def backs (xs : List Opn) (k : Nat) : List (Int × Opn) := (List.range k).map (fun j => (((xs.length - 1 - j : Nat) : Int), xs.getD (xs.length - 1 - j) z98))
theorem backs_succ (xs : List Opn) (k : Nat) : backs xs (k + 1) = backs xs k ++ [(((xs.length - 1 - k : Nat) : Int), xs.getD (xs.length - 1 - k) z98)] := by simp [backs, List.range_succ]
theorem backs_length (xs : List Opn) (k : Nat) : (backs xs k).length = k := by simp [backs]
abbrev Bk (xs : List Opn) := { x : Int × Opn // x.2 ∈ xs }
def encB (xs : List Opn) (x : Bk xs) : Array Value := #[.int .i64 x.1.1, .agg (opnC x.1.2).toArray]
set_option maxRecDepth 100000 in
set_option maxHeartbeats 4000000 in
theorem back1 (w0 : World) (ok : Nat → Prop) (vn : Value) (xs : List Opn) (Bs n l : Nat) (hn : 1 ≤ n) (hlen : xs.length ≤ 10000000000) (J Jx : List (Bk xs) → World → Prop)
    (hY : ∀ pre x W, J pre W → pre.length < xs.length → YieldAt Fence.wide (n - 1) Tryd.prog l (encB xs x) W fun e W' =>
      (e = .returned (.bool true) ∧ J (pre ++ [x]) W' ∧ (RowP w0 ok vn xs Bs W → RowP w0 ok vn xs Bs W')) ∨ (e = .returned (.bool false) ∧ Jx (pre ++ [x]) W'))
    (W : World) (hR : RowP w0 ok vn xs Bs W) (h0 : J [] W) :
    CallsIn Fence.wide n Tryd.prog 52 #[.func (.yield l) #[] #[], .pointer (some ⟨Bs, 0, none⟩)] W fun e W' => (∃ v, e = .returned v) ∧
      ((∃ ys, ys.map Subtype.val = backs xs xs.length ∧ J ys W') ∨ (∃ pre, True ∧ Jx pre W')) := by
  refine callsIn_of_wp Tryd.func52 rfl trivial ?_ rfl
  simp only [Tryd.ntmps52, List.size_toArray, List.length_cons, List.length_nil, Nat.reduceAdd, Nat.reduceSub, Array.replicate_succ, Array.replicate_zero, List.push_toArray, List.append_toArray, List.nil_append, List.cons_append]
  obtain ⟨A, cap, rfl⟩ := Kd.R_slice hR.1
  have cb := blk_cell hR.2 0
  simp only [List.getElem?_toArray, List.getElem?_cons_zero] at cb
  gi_wp2
  gi_loopw [3] (fun i wr => ∃ k : Nat, k ≤ xs.length ∧ i = .int .i64 ((xs.length : Int) - 1 - k) ∧ (∃ ys, ys.map Subtype.val = backs xs k ∧ J ys wr) ∧ RowP w0 ok (.slice A xs.length cap) xs Bs wr)
    (fun i _ => (intOf i + 1).toNat)
  case atStart => exact ⟨0, Nat.zero_le _, by simp, ⟨[], rfl, h0⟩, hR⟩
  case round =>
    obtain ⟨k, hk, rfl, ⟨ys, hys, hJs⟩, hRw⟩ := hrel
    by_cases hlt : k < xs.length
    · obtain ⟨m, hm⟩ : ∃ m, xs.length = m + 1 + k := ⟨xs.length - 1 - k, by omega⟩
      have he : ((xs.length : Int) - 1 - k) = (m : Int) := by omega
      have hmi : xs.length - 1 - k = m := by omega
      rw [he]
      obtain ⟨b, cap', hA, -, -, -⟩ := Kd.R_form hRw.1 (by omega)
      cases hA
      obtain ⟨c, hcl, hM, hc, hf⟩ := Kd.R_elem hRw.1 z98 (m : Int) (by omega) (by omega)
      rw [Int.toNat_natCast] at hM hc
      obtain rfl := k98_openM hM
      obtain ⟨o, hod⟩ : ∃ o, xs.getD m z98 = o := ⟨_, rfl⟩
      rw [hod] at hc
      have hom : o ∈ xs := by
        rw [← hod, List.getD_eq_getElem?_getD, List.getElem?_eq_getElem (by omega)]
        exact List.getElem_mem _
      have hyl : ys.length = k := by
        rw [← List.length_map (f := Subtype.val), hys, backs_length]
      obtain ⟨fn, tmps, assign, body, hy, hRd⟩ := hY ys ⟨((m : Int), o), hom⟩ wr hJs (by rw [hyl]; exact hlt)
      have x0 : wr.cell? ⟨b, m * 8, none⟩ = some (.int .i64 o.f0) := hc 0 _ rfl
      have x1 : wr.cell? ⟨b, m * 8 + 1, none⟩ = some (.int .u8 o.f1.f0) := hc 1 _ rfl
      have x2 : wr.cell? ⟨b, m * 8 + 2, none⟩ = some (.int .u8 o.f1.f1) := hc 2 _ rfl
      have x3 : wr.cell? ⟨b, m * 8 + 3, none⟩ = some (.int .u8 o.f1.f2) := hc 3 _ rfl
      have x4 : wr.cell? ⟨b, m * 8 + 4, none⟩ = some (.int .u8 o.f1.f3) := hc 4 _ rfl
      have x5 : wr.cell? ⟨b, m * 8 + 5, none⟩ = some (.int .i64 o.f1.f4) := hc 5 _ rfl
      have x6 : wr.cell? ⟨b, m * 8 + 6, none⟩ = some (.int .i64 o.f1.f5) := hc 6 _ rfl
      have x7 : wr.cell? ⟨b, m * 8 + 7, none⟩ = some (.int .i64 o.f2) := hc 7 _ rfl
      have cb' := blk_cell hRw.2 0
      simp only [List.getElem?_toArray, List.getElem?_cons_zero] at cb'
      have hlm : (m : Int) < xs.length := by omega
      have hlm2 : m < xs.length := by omega
      simp only [encB, opnC, List.size_toArray] at hy
      have HM := Aside0.mk hm
      have HE := Aside0.mk he
      have HMI := Aside0.mk hmi
      have HOD := Aside0.mk hod
      clear hm he hmi hod
      gi_wp2
      refine hRd.mono ?_
      rintro e W3 (⟨rfl, hJ3, hk3⟩ | ⟨rfl, hJx3⟩)
      · gi_wp2
        go_roundw
        case rel => exact ⟨k + 1, by omega, by have := HE.out; congr 1; omega, ⟨_, by rw [backs_succ, HMI.out, HOD.out, List.map_append, hys]; rfl, hJ3⟩, hk3 hRw⟩
        case measure => simp [intOf]
      · gi_wp2
        refine bodyPost_ret (results_none rfl _ _ _) rfl ?_
        exact ⟨⟨_, rfl⟩, .inr ⟨_, trivial, hJx3⟩⟩
    · obtain rfl : k = xs.length := by omega
      have he : ((xs.length : Int) - 1 - (xs.length : Nat)) = -1 := by omega
      rw [he]
      gi_wp2
      go_end0
      exact ⟨⟨_, rfl⟩, .inl ⟨_, hys, hJs⟩⟩
/-- slices.Backward's value, as a loop's contract. -/
theorem back_stops (w0 w : World) (ok : Nat → Prop) (vn : Value) (xs : List Opn) (Bs n : Nat) (hn : 1 ≤ n) (hlen : xs.length ≤ 10000000000) (hR : RowP w0 ok vn xs Bs w) :
    SeqStopsK Fence.wide n Tryd.prog 52 #[.pointer (some ⟨Bs, 0, none⟩)] (encB xs) (fun A B => RowP w0 ok vn xs Bs A → RowP w0 ok vn xs Bs B) (fun ys => ys.map Subtype.val = backs xs xs.length) (fun _ => True) xs.length w :=
  fun l J Jx W hW _ _ hY h0 => back1 w0 ok vn xs Bs n l hn hlen J Jx hY W (hR.below hW) h0
set_option maxHeartbeats 1000000 in
theorem backward_calls (A : Option Addr) (len cap : Nat) (w : World) :
    Calls Tryd.prog 41 #[.slice A len cap] w fun e w' => e = .returned (.func (.func 52) #[] #[.pointer (some ⟨w.heap.size, 0, none⟩)]) ∧ w' = w.alloc (.cells #[.slice A len cap] 63) := by
  go_enter Tryd.func41, Tryd.ntmps41
  go_wp2
  go_ret
  exact ⟨rfl, rfl⟩
end Go.Proofs.YtlfpjlpaiaonkaaDoor.Sp

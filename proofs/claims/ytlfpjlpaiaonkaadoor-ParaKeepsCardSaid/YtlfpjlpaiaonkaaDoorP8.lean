-- Written by a program of this session (wip/pr.py).
import Derived.Test.YtlfpjlpaiaonkaaDoorP0
import Derived.Test.YtlfpjlpaiaonkaaDoorP6
namespace Go.Proofs.YtlfpjlpaiaonkaaDoor.P
open Go.Proofs.YtlfpjlpaiaonkaaDoorH Go.RowKit Go.Proofs.YtlfpjlpaiaonkaaDoorW.PrintWords Go.Proofs.YtlfpjlpaiaonkaaDoorW.PrintLast Go.Proofs.YtlfpjlpaiaonkaaDoorW.PrintMore
attribute [local go_sem] max2_int min2_int max_two min_two max_three min_three max_four min_four   -- for this text's walks alone
set_option linter.unusedVariables false
set_option linter.unusedSimpArgs false

/-- A state of type 73 at block g of W; what its slices lead to came in by w0. -/
def IsS73 (w0 W : World) (g : Nat) (f0 : List (S52)) (f1 : Int) (f2 : Int) (f3 : Int) (f4 : Int) (f5 : Int) (f6 : Int) (f7 : Bool) (f8 : List (S71)) (f9 : Int) (f10 : List (S79)) (f11 : Int) (f12 : List Int) (f13 : List Int) (f14 : List Int) (f15 : Int) (f16 : Bool) : Prop := ∃ A0 c0, ∃ A8 c8, ∃ A10 c10, ∃ A12 c12, ∃ A13 c13, ∃ A14 c14, W.heap[g]? = some (.cells #[.slice A0 f0.length c0, .int .u8 f1, .int .u8 f2, .int .u8 f3, .int .u8 f4, .int .i64 f5, .int .i64 f6, .bool f7, .slice A8 f8.length c8, .int .u8 f9, .slice A10 f10.length c10, .int .i64 f11, .slice A12 f12.length c12, .slice A13 f13.length c13, .slice A14 f14.length c14, .int .i64 f15, .bool f16] 73 (0, 0)) ∧ w0.heap.size ≤ g ∧ Kd.C k52 w0 A0 f0.length f0 ∧ Kd.C k71 w0 A8 f8.length f8 ∧ Kd.C k79 w0 A10 f10.length f10 ∧ Kd.C (Kd.int .i64) w0 A12 f12.length f12 ∧ Kd.C (Kd.int .i64) w0 A13 f13.length f13 ∧ Kd.C (Kd.int .i64) w0 A14 f14.length f14
theorem IsS73.grown {w0 W : World} {g : Nat} {f0 : List (S52)} {f1 : Int} {f2 : Int} {f3 : Int} {f4 : Int} {f5 : Int} {f6 : Int} {f7 : Bool} {f8 : List (S71)} {f9 : Int} {f10 : List (S79)} {f11 : Int} {f12 : List Int} {f13 : List Int} {f14 : List Int} {f15 : Int} {f16 : Bool} {W1 : World} {row : Option Nat} (h : IsS73 w0 W g f0 f1 f2 f3 f4 f5 f6 f7 f8 f9 f10 f11 f12 f13 f14 f15 f16) (hw : W.grownBy W1 row) (hne : some g ≠ row) : IsS73 w0 W1 g f0 f1 f2 f3 f4 f5 f6 f7 f8 f9 f10 f11 f12 f13 f14 f15 f16 := by
  obtain ⟨A0, c0, A8, c8, A10, c10, A12, c12, A13, c13, A14, c14, hb, hg, hr0, hr8, hr10, hr12, hr13, hr14⟩ := h
  exact ⟨A0, c0, A8, c8, A10, c10, A12, c12, A13, c13, A14, c14, blk_grown hb hw hne, hg, hr0, hr8, hr10, hr12, hr13, hr14⟩
theorem IsS73.own_neN {w0 W : World} {g : Nat} {f0 : List (S52)} {f1 : Int} {f2 : Int} {f3 : Int} {f4 : Int} {f5 : Int} {f6 : Int} {f7 : Bool} {f8 : List (S71)} {f9 : Int} {f10 : List (S79)} {f11 : Int} {f12 : List Int} {f13 : List Int} {f14 : List Int} {f15 : Int} {f16 : Bool} {α : Type} {d : Kd α} {e : Nat} {base : Nat} {ok : Nat → Prop} {v : Value} {xs : List α} (h : IsS73 w0 W g f0 f1 f2 f3 f4 f5 f6 f7 f8 f9 f10 f11 f12 f13 f14 f15 f16) (ho : Kd.N d e W base ok v xs) (ht : e ≠ 73) : some g ≠ v.ownBlock := by
  obtain ⟨A0, c0, A8, c8, A10, c10, A12, c12, A13, c13, A14, c14, hb, hg, hr0, hr8, hr10, hr12, hr13, hr14⟩ := h
  exact Kd.N_ne ho hb ht
theorem IsS73.fresh {w0 W : World} {g : Nat} {f0 : List (S52)} {f1 : Int} {f2 : Int} {f3 : Int} {f4 : Int} {f5 : Int} {f6 : Int} {f7 : Bool} {f8 : List (S71)} {f9 : Int} {f10 : List (S79)} {f11 : Int} {f12 : List Int} {f13 : List Int} {f14 : List Int} {f15 : Int} {f16 : Bool} (h : IsS73 w0 W g f0 f1 f2 f3 f4 f5 f6 f7 f8 f9 f10 f11 f12 f13 f14 f15 f16) : ∀ k, W.heap.size ≤ k → k ≠ g := by
  obtain ⟨A0, c0, A8, c8, A10, c10, A12, c12, A13, c13, A14, c14, hb, hg, hr0, hr8, hr10, hr12, hr13, hr14⟩ := h
  exact Kd.freshB hb
theorem IsS73.kept {w0 W : World} {g : Nat} {f0 : List (S52)} {f1 : Int} {f2 : Int} {f3 : Int} {f4 : Int} {f5 : Int} {f6 : Int} {f7 : Bool} {f8 : List (S71)} {f9 : Int} {f10 : List (S79)} {f11 : Int} {f12 : List Int} {f13 : List Int} {f14 : List Int} {f15 : Int} {f16 : Bool} {W1 : World} {S : Nat → Prop} (h : IsS73 w0 W g f0 f1 f2 f3 f4 f5 f6 f7 f8 f9 f10 f11 f12 f13 f14 f15 f16) (hk : Kept W W1 S) (hne : ¬ S g) : IsS73 w0 W1 g f0 f1 f2 f3 f4 f5 f6 f7 f8 f9 f10 f11 f12 f13 f14 f15 f16 := by
  obtain ⟨A0, c0, A8, c8, A10, c10, A12, c12, A13, c13, A14, c14, hb, hg, hr0, hr8, hr10, hr12, hr13, hr14⟩ := h
  exact ⟨A0, c0, A8, c8, A10, c10, A12, c12, A13, c13, A14, c14, blk_kept hb hk hne, hg, hr0, hr8, hr10, hr12, hr13, hr14⟩
theorem IsS73.below {w0 W : World} {g : Nat} {f0 : List (S52)} {f1 : Int} {f2 : Int} {f3 : Int} {f4 : Int} {f5 : Int} {f6 : Int} {f7 : Bool} {f8 : List (S71)} {f9 : Int} {f10 : List (S79)} {f11 : Int} {f12 : List Int} {f13 : List Int} {f14 : List Int} {f15 : Int} {f16 : Bool} {W1 : World} (h : IsS73 w0 W g f0 f1 f2 f3 f4 f5 f6 f7 f8 f9 f10 f11 f12 f13 f14 f15 f16) (hw : Below W.heap.size W W1) : IsS73 w0 W1 g f0 f1 f2 f3 f4 f5 f6 f7 f8 f9 f10 f11 f12 f13 f14 f15 f16 := h.grown (grown_of_below hw none) (by simp)
theorem IsS73.alloc {w0 W : World} {g : Nat} {f0 : List (S52)} {f1 : Int} {f2 : Int} {f3 : Int} {f4 : Int} {f5 : Int} {f6 : Int} {f7 : Bool} {f8 : List (S71)} {f9 : Int} {f10 : List (S79)} {f11 : Int} {f12 : List Int} {f13 : List Int} {f14 : List Int} {f15 : Int} {f16 : Bool} (h : IsS73 w0 W g f0 f1 f2 f3 f4 f5 f6 f7 f8 f9 f10 f11 f12 f13 f14 f15 f16) (o : Obj) : IsS73 w0 (W.alloc o) g f0 f1 f2 f3 f4 f5 f6 f7 f8 f9 f10 f11 f12 f13 f14 f15 f16 := h.below (below_alloc (Below.refl _ _) o)
theorem IsS73.drewN {w0 W : World} {g : Nat} {f0 : List (S52)} {f1 : Int} {f2 : Int} {f3 : Int} {f4 : Int} {f5 : Int} {f6 : Int} {f7 : Bool} {f8 : List (S71)} {f9 : Int} {f10 : List (S79)} {f11 : Int} {f12 : List Int} {f13 : List Int} {f14 : List Int} {f15 : Int} {f16 : Bool} (h : IsS73 w0 W g f0 f1 f2 f3 f4 f5 f6 f7 f8 f9 f10 f11 f12 f13 f14 f15 f16) (m : Nat) : IsS73 w0 (W.drewN m) g f0 f1 f2 f3 f4 f5 f6 f7 f8 f9 f10 f11 f12 f13 f14 f15 f16 := h
theorem IsS73.drew {w0 W : World} {g : Nat} {f0 : List (S52)} {f1 : Int} {f2 : Int} {f3 : Int} {f4 : Int} {f5 : Int} {f6 : Int} {f7 : Bool} {f8 : List (S71)} {f9 : Int} {f10 : List (S79)} {f11 : Int} {f12 : List Int} {f13 : List Int} {f14 : List Int} {f15 : Int} {f16 : Bool} (h : IsS73 w0 W g f0 f1 f2 f3 f4 f5 f6 f7 f8 f9 f10 f11 f12 f13 f14 f15 f16) : IsS73 w0 W.drew g f0 f1 f2 f3 f4 f5 f6 f7 f8 f9 f10 f11 f12 f13 f14 f15 f16 := h
theorem IsS73.at_ {w0 W : World} {g : Nat} {f0 : List (S52)} {f1 : Int} {f2 : Int} {f3 : Int} {f4 : Int} {f5 : Int} {f6 : Int} {f7 : Bool} {f8 : List (S71)} {f9 : Int} {f10 : List (S79)} {f11 : Int} {f12 : List Int} {f13 : List Int} {f14 : List Int} {f15 : Int} {f16 : Bool} {w' : World} {m : Nat} (hq : W.drewN m = w') (h : IsS73 w0 W g f0 f1 f2 f3 f4 f5 f6 f7 f8 f9 f10 f11 f12 f13 f14 f15 f16) : IsS73 w0 w' g f0 f1 f2 f3 f4 f5 f6 f7 f8 f9 f10 f11 f12 f13 f14 f15 f16 := by subst hq; exact IsS73.drewN h m
theorem IsS73.apart {w0 W : World} {g : Nat} {f0 : List (S52)} {f1 : Int} {f2 : Int} {f3 : Int} {f4 : Int} {f5 : Int} {f6 : Int} {f7 : Bool} {f8 : List (S71)} {f9 : Int} {f10 : List (S79)} {f11 : Int} {f12 : List Int} {f13 : List Int} {f14 : List Int} {f15 : Int} {f16 : Bool} {α : Type} {d : Kd α} {e : Nat} {base : Nat} {ok : Nat → Prop} {v : Value} {xs : List α} (h : IsS73 w0 W g f0 f1 f2 f3 f4 f5 f6 f7 f8 f9 f10 f11 f12 f13 f14 f15 f16) (ho : d.R e W base ok v xs) (ht : ∀ q, q ∈ e :: d.E → q ≠ 73) : d.R e W base (fun k => ok k ∧ k ≠ g) v xs := by
  obtain ⟨A0, c0, A8, c8, A10, c10, A12, c12, A13, c13, A14, c14, hb, hg, hr0, hr8, hr10, hr12, hr13, hr14⟩ := h
  exact Kd.R_types ho hb ht
theorem IsS73.own_ne {w0 W : World} {g : Nat} {f0 : List (S52)} {f1 : Int} {f2 : Int} {f3 : Int} {f4 : Int} {f5 : Int} {f6 : Int} {f7 : Bool} {f8 : List (S71)} {f9 : Int} {f10 : List (S79)} {f11 : Int} {f12 : List Int} {f13 : List Int} {f14 : List Int} {f15 : Int} {f16 : Bool} {α : Type} {d : Kd α} {e : Nat} {base : Nat} {ok : Nat → Prop} {v : Value} {xs : List α} (h : IsS73 w0 W g f0 f1 f2 f3 f4 f5 f6 f7 f8 f9 f10 f11 f12 f13 f14 f15 f16) (ho : d.R e W base ok v xs) (ht : e ≠ 73) : some g ≠ v.ownBlock := by
  obtain ⟨A0, c0, A8, c8, A10, c10, A12, c12, A13, c13, A14, c14, hb, hg, hr0, hr8, hr10, hr12, hr13, hr14⟩ := h
  exact Kd.R_ne ho hb ht
theorem IsS73.apartQ {w0 W : World} {g : Nat} {f0 : List (S52)} {f1 : Int} {f2 : Int} {f3 : Int} {f4 : Int} {f5 : Int} {f6 : Int} {f7 : Bool} {f8 : List (S71)} {f9 : Int} {f10 : List (S79)} {f11 : Int} {f12 : List Int} {f13 : List Int} {f14 : List Int} {f15 : Int} {f16 : Bool} {α : Type} {d : Kd α} {e : Nat} {base : Nat} {ok : Nat → Prop} {v : Value} {xs : List α} (h : IsS73 w0 W g f0 f1 f2 f3 f4 f5 f6 f7 f8 f9 f10 f11 f12 f13 f14 f15 f16) (ho : d.Q e W base ok v xs) (ht : ∀ q, q ∈ e :: d.E → q ≠ 73) : d.Q e W base (fun k => ok k ∧ k ≠ g) v xs := by
  obtain ⟨A0, c0, A8, c8, A10, c10, A12, c12, A13, c13, A14, c14, hb, hg, hr0, hr8, hr10, hr12, hr13, hr14⟩ := h
  exact Kd.Q_types ho hb ht
theorem IsS73.own_neQ {w0 W : World} {g : Nat} {f0 : List (S52)} {f1 : Int} {f2 : Int} {f3 : Int} {f4 : Int} {f5 : Int} {f6 : Int} {f7 : Bool} {f8 : List (S71)} {f9 : Int} {f10 : List (S79)} {f11 : Int} {f12 : List Int} {f13 : List Int} {f14 : List Int} {f15 : Int} {f16 : Bool} {α : Type} {d : Kd α} {e : Nat} {base : Nat} {ok : Nat → Prop} {v : Value} {xs : List α} (h : IsS73 w0 W g f0 f1 f2 f3 f4 f5 f6 f7 f8 f9 f10 f11 f12 f13 f14 f15 f16) (ho : d.Q e W base ok v xs) (ht : e ≠ 73) : some g ≠ v.ownBlock := by
  obtain ⟨A0, c0, A8, c8, A10, c10, A12, c12, A13, c13, A14, c14, hb, hg, hr0, hr8, hr10, hr12, hr13, hr14⟩ := h
  exact Kd.Q_ne ho hb ht
theorem IsS73.apartS {w0 W : World} {g : Nat} {f0 : List (S52)} {f1 : Int} {f2 : Int} {f3 : Int} {f4 : Int} {f5 : Int} {f6 : Int} {f7 : Bool} {f8 : List (S71)} {f9 : Int} {f10 : List (S79)} {f11 : Int} {f12 : List Int} {f13 : List Int} {f14 : List Int} {f15 : Int} {f16 : Bool} {α : Type} {d : Kd α} {e : Nat} {base : Nat} {ok : Nat → Prop} {v : Value} {xs : List α} (h : IsS73 w0 W g f0 f1 f2 f3 f4 f5 f6 f7 f8 f9 f10 f11 f12 f13 f14 f15 f16) (ho : d.S e W base ok v xs) (ht : ∀ q, q ∈ e :: d.E → q ≠ 73) : d.S e W base (fun k => ok k ∧ k ≠ g) v xs := by
  obtain ⟨A0, c0, A8, c8, A10, c10, A12, c12, A13, c13, A14, c14, hb, hg, hr0, hr8, hr10, hr12, hr13, hr14⟩ := h
  exact Kd.S_types ho hb ht
theorem IsS73.own_neS {w0 W : World} {g : Nat} {f0 : List (S52)} {f1 : Int} {f2 : Int} {f3 : Int} {f4 : Int} {f5 : Int} {f6 : Int} {f7 : Bool} {f8 : List (S71)} {f9 : Int} {f10 : List (S79)} {f11 : Int} {f12 : List Int} {f13 : List Int} {f14 : List Int} {f15 : Int} {f16 : Bool} {α : Type} {d : Kd α} {e : Nat} {base : Nat} {ok : Nat → Prop} {v : Value} {xs : List α} (h : IsS73 w0 W g f0 f1 f2 f3 f4 f5 f6 f7 f8 f9 f10 f11 f12 f13 f14 f15 f16) (ho : d.S e W base ok v xs) (ht : e ≠ 73) : some g ≠ v.ownBlock := by
  obtain ⟨A0, c0, A8, c8, A10, c10, A12, c12, A13, c13, A14, c14, hb, hg, hr0, hr8, hr10, hr12, hr13, hr14⟩ := h
  exact Kd.S_ne ho hb ht
theorem IsS73.lt {w0 W : World} {g : Nat} {f0 : List (S52)} {f1 : Int} {f2 : Int} {f3 : Int} {f4 : Int} {f5 : Int} {f6 : Int} {f7 : Bool} {f8 : List (S71)} {f9 : Int} {f10 : List (S79)} {f11 : Int} {f12 : List Int} {f13 : List Int} {f14 : List Int} {f15 : Int} {f16 : Bool} (h : IsS73 w0 W g f0 f1 f2 f3 f4 f5 f6 f7 f8 f9 f10 f11 f12 f13 f14 f15 f16) : g < W.heap.size := by
  obtain ⟨A0, c0, A8, c8, A10, c10, A12, c12, A13, c13, A14, c14, hb, hg, hr0, hr8, hr10, hr12, hr13, hr14⟩ := h
  exact blk_lt hb
theorem IsS73.ge {w0 W : World} {g : Nat} {f0 : List (S52)} {f1 : Int} {f2 : Int} {f3 : Int} {f4 : Int} {f5 : Int} {f6 : Int} {f7 : Bool} {f8 : List (S71)} {f9 : Int} {f10 : List (S79)} {f11 : Int} {f12 : List Int} {f13 : List Int} {f14 : List Int} {f15 : Int} {f16 : Bool} (h : IsS73 w0 W g f0 f1 f2 f3 f4 f5 f6 f7 f8 f9 f10 f11 f12 f13 f14 f15 f16) : w0.heap.size ≤ g := by
  obtain ⟨A0, c0, A8, c8, A10, c10, A12, c12, A13, c13, A14, c14, hb, hg, hr0, hr8, hr10, hr12, hr13, hr14⟩ := h
  exact hg
theorem IsS73.ne_blk {w0 W : World} {g : Nat} {f0 : List (S52)} {f1 : Int} {f2 : Int} {f3 : Int} {f4 : Int} {f5 : Int} {f6 : Int} {f7 : Bool} {f8 : List (S71)} {f9 : Int} {f10 : List (S79)} {f11 : Int} {f12 : List Int} {f13 : List Int} {f14 : List Int} {f15 : Int} {f16 : Bool} {a : Nat} {cs : Array Value} {t : TypeId} {fr : Nat × Nat} (h : IsS73 w0 W g f0 f1 f2 f3 f4 f5 f6 f7 f8 f9 f10 f11 f12 f13 f14 f15 f16) (hb2 : W.heap[a]? = some (.cells cs t fr)) (ht : t ≠ 73) : g ≠ a := by
  obtain ⟨A0, c0, A8, c8, A10, c10, A12, c12, A13, c13, A14, c14, hb, hg, hr0, hr8, hr10, hr12, hr13, hr14⟩ := h
  rintro rfl
  rw [hb] at hb2
  injection hb2 with hb2
  injection hb2 with _ ht2
  exact ht ht2.symm
theorem IsS73.far {w0 W : World} {g : Nat} {f0 : List (S52)} {f1 : Int} {f2 : Int} {f3 : Int} {f4 : Int} {f5 : Int} {f6 : Int} {f7 : Bool} {f8 : List (S71)} {f9 : Int} {f10 : List (S79)} {f11 : Int} {f12 : List Int} {f13 : List Int} {f14 : List Int} {f15 : Int} {f16 : Bool} {p : Addr} (h : IsS73 w0 W g f0 f1 f2 f3 f4 f5 f6 f7 f8 f9 f10 f11 f12 f13 f14 f15 f16) (hne : g ≠ p.block) (u : Value) : IsS73 w0 (W.setCell p u) g f0 f1 f2 f3 f4 f5 f6 f7 f8 f9 f10 f11 f12 f13 f14 f15 f16 := by
  obtain ⟨A0, c0, A8, c8, A10, c10, A12, c12, A13, c13, A14, c14, hb, hg, hr0, hr8, hr10, hr12, hr13, hr14⟩ := h
  exact ⟨A0, c0, A8, c8, A10, c10, A12, c12, A13, c13, A14, c14, blk_far hb hne u, hg, hr0, hr8, hr10, hr12, hr13, hr14⟩
theorem cellS73_0 {W : World} {g : Nat} {A0 : Option Addr} {c0 : Nat} {A8 : Option Addr} {c8 : Nat} {A10 : Option Addr} {c10 : Nat} {A12 : Option Addr} {c12 : Nat} {A13 : Option Addr} {c13 : Nat} {A14 : Option Addr} {c14 : Nat} {f0 : List (S52)} {f1 : Int} {f2 : Int} {f3 : Int} {f4 : Int} {f5 : Int} {f6 : Int} {f7 : Bool} {f8 : List (S71)} {f9 : Int} {f10 : List (S79)} {f11 : Int} {f12 : List Int} {f13 : List Int} {f14 : List Int} {f15 : Int} {f16 : Bool} (h : W.heap[g]? = some (.cells #[.slice A0 f0.length c0, .int .u8 f1, .int .u8 f2, .int .u8 f3, .int .u8 f4, .int .i64 f5, .int .i64 f6, .bool f7, .slice A8 f8.length c8, .int .u8 f9, .slice A10 f10.length c10, .int .i64 f11, .slice A12 f12.length c12, .slice A13 f13.length c13, .slice A14 f14.length c14, .int .i64 f15, .bool f16] 73 (0, 0))) : W.cell? ⟨g, 0, none⟩ = some (.slice A0 f0.length c0) := (blk_cell h 0).trans rfl
theorem cellS73_1 {W : World} {g : Nat} {A0 : Option Addr} {c0 : Nat} {A8 : Option Addr} {c8 : Nat} {A10 : Option Addr} {c10 : Nat} {A12 : Option Addr} {c12 : Nat} {A13 : Option Addr} {c13 : Nat} {A14 : Option Addr} {c14 : Nat} {f0 : List (S52)} {f1 : Int} {f2 : Int} {f3 : Int} {f4 : Int} {f5 : Int} {f6 : Int} {f7 : Bool} {f8 : List (S71)} {f9 : Int} {f10 : List (S79)} {f11 : Int} {f12 : List Int} {f13 : List Int} {f14 : List Int} {f15 : Int} {f16 : Bool} (h : W.heap[g]? = some (.cells #[.slice A0 f0.length c0, .int .u8 f1, .int .u8 f2, .int .u8 f3, .int .u8 f4, .int .i64 f5, .int .i64 f6, .bool f7, .slice A8 f8.length c8, .int .u8 f9, .slice A10 f10.length c10, .int .i64 f11, .slice A12 f12.length c12, .slice A13 f13.length c13, .slice A14 f14.length c14, .int .i64 f15, .bool f16] 73 (0, 0))) : W.cell? ⟨g, 1, none⟩ = some (.int .u8 f1) := (blk_cell h 1).trans rfl
theorem IsS73.set_1 {w0 W : World} {g : Nat} {f0 : List (S52)} {f1 : Int} {f2 : Int} {f3 : Int} {f4 : Int} {f5 : Int} {f6 : Int} {f7 : Bool} {f8 : List (S71)} {f9 : Int} {f10 : List (S79)} {f11 : Int} {f12 : List Int} {f13 : List Int} {f14 : List Int} {f15 : Int} {f16 : Bool} (h : IsS73 w0 W g f0 f1 f2 f3 f4 f5 f6 f7 f8 f9 f10 f11 f12 f13 f14 f15 f16) (x : Int) : IsS73 w0 (W.setCell ⟨g, 1, none⟩ (.int .u8 x)) g f0 x f2 f3 f4 f5 f6 f7 f8 f9 f10 f11 f12 f13 f14 f15 f16 := by
  obtain ⟨A0, c0, A8, c8, A10, c10, A12, c12, A13, c13, A14, c14, hb, hg, hr0, hr8, hr10, hr12, hr13, hr14⟩ := h
  exact ⟨A0, c0, A8, c8, A10, c10, A12, c12, A13, c13, A14, c14, by simpa using blk_set hb 1 (.int .u8 x), hg, hr0, hr8, hr10, hr12, hr13, hr14⟩
theorem cellS73_2 {W : World} {g : Nat} {A0 : Option Addr} {c0 : Nat} {A8 : Option Addr} {c8 : Nat} {A10 : Option Addr} {c10 : Nat} {A12 : Option Addr} {c12 : Nat} {A13 : Option Addr} {c13 : Nat} {A14 : Option Addr} {c14 : Nat} {f0 : List (S52)} {f1 : Int} {f2 : Int} {f3 : Int} {f4 : Int} {f5 : Int} {f6 : Int} {f7 : Bool} {f8 : List (S71)} {f9 : Int} {f10 : List (S79)} {f11 : Int} {f12 : List Int} {f13 : List Int} {f14 : List Int} {f15 : Int} {f16 : Bool} (h : W.heap[g]? = some (.cells #[.slice A0 f0.length c0, .int .u8 f1, .int .u8 f2, .int .u8 f3, .int .u8 f4, .int .i64 f5, .int .i64 f6, .bool f7, .slice A8 f8.length c8, .int .u8 f9, .slice A10 f10.length c10, .int .i64 f11, .slice A12 f12.length c12, .slice A13 f13.length c13, .slice A14 f14.length c14, .int .i64 f15, .bool f16] 73 (0, 0))) : W.cell? ⟨g, 2, none⟩ = some (.int .u8 f2) := (blk_cell h 2).trans rfl
theorem IsS73.set_2 {w0 W : World} {g : Nat} {f0 : List (S52)} {f1 : Int} {f2 : Int} {f3 : Int} {f4 : Int} {f5 : Int} {f6 : Int} {f7 : Bool} {f8 : List (S71)} {f9 : Int} {f10 : List (S79)} {f11 : Int} {f12 : List Int} {f13 : List Int} {f14 : List Int} {f15 : Int} {f16 : Bool} (h : IsS73 w0 W g f0 f1 f2 f3 f4 f5 f6 f7 f8 f9 f10 f11 f12 f13 f14 f15 f16) (x : Int) : IsS73 w0 (W.setCell ⟨g, 2, none⟩ (.int .u8 x)) g f0 f1 x f3 f4 f5 f6 f7 f8 f9 f10 f11 f12 f13 f14 f15 f16 := by
  obtain ⟨A0, c0, A8, c8, A10, c10, A12, c12, A13, c13, A14, c14, hb, hg, hr0, hr8, hr10, hr12, hr13, hr14⟩ := h
  exact ⟨A0, c0, A8, c8, A10, c10, A12, c12, A13, c13, A14, c14, by simpa using blk_set hb 2 (.int .u8 x), hg, hr0, hr8, hr10, hr12, hr13, hr14⟩
theorem cellS73_3 {W : World} {g : Nat} {A0 : Option Addr} {c0 : Nat} {A8 : Option Addr} {c8 : Nat} {A10 : Option Addr} {c10 : Nat} {A12 : Option Addr} {c12 : Nat} {A13 : Option Addr} {c13 : Nat} {A14 : Option Addr} {c14 : Nat} {f0 : List (S52)} {f1 : Int} {f2 : Int} {f3 : Int} {f4 : Int} {f5 : Int} {f6 : Int} {f7 : Bool} {f8 : List (S71)} {f9 : Int} {f10 : List (S79)} {f11 : Int} {f12 : List Int} {f13 : List Int} {f14 : List Int} {f15 : Int} {f16 : Bool} (h : W.heap[g]? = some (.cells #[.slice A0 f0.length c0, .int .u8 f1, .int .u8 f2, .int .u8 f3, .int .u8 f4, .int .i64 f5, .int .i64 f6, .bool f7, .slice A8 f8.length c8, .int .u8 f9, .slice A10 f10.length c10, .int .i64 f11, .slice A12 f12.length c12, .slice A13 f13.length c13, .slice A14 f14.length c14, .int .i64 f15, .bool f16] 73 (0, 0))) : W.cell? ⟨g, 3, none⟩ = some (.int .u8 f3) := (blk_cell h 3).trans rfl
theorem IsS73.set_3 {w0 W : World} {g : Nat} {f0 : List (S52)} {f1 : Int} {f2 : Int} {f3 : Int} {f4 : Int} {f5 : Int} {f6 : Int} {f7 : Bool} {f8 : List (S71)} {f9 : Int} {f10 : List (S79)} {f11 : Int} {f12 : List Int} {f13 : List Int} {f14 : List Int} {f15 : Int} {f16 : Bool} (h : IsS73 w0 W g f0 f1 f2 f3 f4 f5 f6 f7 f8 f9 f10 f11 f12 f13 f14 f15 f16) (x : Int) : IsS73 w0 (W.setCell ⟨g, 3, none⟩ (.int .u8 x)) g f0 f1 f2 x f4 f5 f6 f7 f8 f9 f10 f11 f12 f13 f14 f15 f16 := by
  obtain ⟨A0, c0, A8, c8, A10, c10, A12, c12, A13, c13, A14, c14, hb, hg, hr0, hr8, hr10, hr12, hr13, hr14⟩ := h
  exact ⟨A0, c0, A8, c8, A10, c10, A12, c12, A13, c13, A14, c14, by simpa using blk_set hb 3 (.int .u8 x), hg, hr0, hr8, hr10, hr12, hr13, hr14⟩
theorem cellS73_4 {W : World} {g : Nat} {A0 : Option Addr} {c0 : Nat} {A8 : Option Addr} {c8 : Nat} {A10 : Option Addr} {c10 : Nat} {A12 : Option Addr} {c12 : Nat} {A13 : Option Addr} {c13 : Nat} {A14 : Option Addr} {c14 : Nat} {f0 : List (S52)} {f1 : Int} {f2 : Int} {f3 : Int} {f4 : Int} {f5 : Int} {f6 : Int} {f7 : Bool} {f8 : List (S71)} {f9 : Int} {f10 : List (S79)} {f11 : Int} {f12 : List Int} {f13 : List Int} {f14 : List Int} {f15 : Int} {f16 : Bool} (h : W.heap[g]? = some (.cells #[.slice A0 f0.length c0, .int .u8 f1, .int .u8 f2, .int .u8 f3, .int .u8 f4, .int .i64 f5, .int .i64 f6, .bool f7, .slice A8 f8.length c8, .int .u8 f9, .slice A10 f10.length c10, .int .i64 f11, .slice A12 f12.length c12, .slice A13 f13.length c13, .slice A14 f14.length c14, .int .i64 f15, .bool f16] 73 (0, 0))) : W.cell? ⟨g, 4, none⟩ = some (.int .u8 f4) := (blk_cell h 4).trans rfl
theorem IsS73.set_4 {w0 W : World} {g : Nat} {f0 : List (S52)} {f1 : Int} {f2 : Int} {f3 : Int} {f4 : Int} {f5 : Int} {f6 : Int} {f7 : Bool} {f8 : List (S71)} {f9 : Int} {f10 : List (S79)} {f11 : Int} {f12 : List Int} {f13 : List Int} {f14 : List Int} {f15 : Int} {f16 : Bool} (h : IsS73 w0 W g f0 f1 f2 f3 f4 f5 f6 f7 f8 f9 f10 f11 f12 f13 f14 f15 f16) (x : Int) : IsS73 w0 (W.setCell ⟨g, 4, none⟩ (.int .u8 x)) g f0 f1 f2 f3 x f5 f6 f7 f8 f9 f10 f11 f12 f13 f14 f15 f16 := by
  obtain ⟨A0, c0, A8, c8, A10, c10, A12, c12, A13, c13, A14, c14, hb, hg, hr0, hr8, hr10, hr12, hr13, hr14⟩ := h
  exact ⟨A0, c0, A8, c8, A10, c10, A12, c12, A13, c13, A14, c14, by simpa using blk_set hb 4 (.int .u8 x), hg, hr0, hr8, hr10, hr12, hr13, hr14⟩
theorem cellS73_5 {W : World} {g : Nat} {A0 : Option Addr} {c0 : Nat} {A8 : Option Addr} {c8 : Nat} {A10 : Option Addr} {c10 : Nat} {A12 : Option Addr} {c12 : Nat} {A13 : Option Addr} {c13 : Nat} {A14 : Option Addr} {c14 : Nat} {f0 : List (S52)} {f1 : Int} {f2 : Int} {f3 : Int} {f4 : Int} {f5 : Int} {f6 : Int} {f7 : Bool} {f8 : List (S71)} {f9 : Int} {f10 : List (S79)} {f11 : Int} {f12 : List Int} {f13 : List Int} {f14 : List Int} {f15 : Int} {f16 : Bool} (h : W.heap[g]? = some (.cells #[.slice A0 f0.length c0, .int .u8 f1, .int .u8 f2, .int .u8 f3, .int .u8 f4, .int .i64 f5, .int .i64 f6, .bool f7, .slice A8 f8.length c8, .int .u8 f9, .slice A10 f10.length c10, .int .i64 f11, .slice A12 f12.length c12, .slice A13 f13.length c13, .slice A14 f14.length c14, .int .i64 f15, .bool f16] 73 (0, 0))) : W.cell? ⟨g, 5, none⟩ = some (.int .i64 f5) := (blk_cell h 5).trans rfl
theorem IsS73.set_5 {w0 W : World} {g : Nat} {f0 : List (S52)} {f1 : Int} {f2 : Int} {f3 : Int} {f4 : Int} {f5 : Int} {f6 : Int} {f7 : Bool} {f8 : List (S71)} {f9 : Int} {f10 : List (S79)} {f11 : Int} {f12 : List Int} {f13 : List Int} {f14 : List Int} {f15 : Int} {f16 : Bool} (h : IsS73 w0 W g f0 f1 f2 f3 f4 f5 f6 f7 f8 f9 f10 f11 f12 f13 f14 f15 f16) (x : Int) : IsS73 w0 (W.setCell ⟨g, 5, none⟩ (.int .i64 x)) g f0 f1 f2 f3 f4 x f6 f7 f8 f9 f10 f11 f12 f13 f14 f15 f16 := by
  obtain ⟨A0, c0, A8, c8, A10, c10, A12, c12, A13, c13, A14, c14, hb, hg, hr0, hr8, hr10, hr12, hr13, hr14⟩ := h
  exact ⟨A0, c0, A8, c8, A10, c10, A12, c12, A13, c13, A14, c14, by simpa using blk_set hb 5 (.int .i64 x), hg, hr0, hr8, hr10, hr12, hr13, hr14⟩
theorem cellS73_6 {W : World} {g : Nat} {A0 : Option Addr} {c0 : Nat} {A8 : Option Addr} {c8 : Nat} {A10 : Option Addr} {c10 : Nat} {A12 : Option Addr} {c12 : Nat} {A13 : Option Addr} {c13 : Nat} {A14 : Option Addr} {c14 : Nat} {f0 : List (S52)} {f1 : Int} {f2 : Int} {f3 : Int} {f4 : Int} {f5 : Int} {f6 : Int} {f7 : Bool} {f8 : List (S71)} {f9 : Int} {f10 : List (S79)} {f11 : Int} {f12 : List Int} {f13 : List Int} {f14 : List Int} {f15 : Int} {f16 : Bool} (h : W.heap[g]? = some (.cells #[.slice A0 f0.length c0, .int .u8 f1, .int .u8 f2, .int .u8 f3, .int .u8 f4, .int .i64 f5, .int .i64 f6, .bool f7, .slice A8 f8.length c8, .int .u8 f9, .slice A10 f10.length c10, .int .i64 f11, .slice A12 f12.length c12, .slice A13 f13.length c13, .slice A14 f14.length c14, .int .i64 f15, .bool f16] 73 (0, 0))) : W.cell? ⟨g, 6, none⟩ = some (.int .i64 f6) := (blk_cell h 6).trans rfl
theorem IsS73.set_6 {w0 W : World} {g : Nat} {f0 : List (S52)} {f1 : Int} {f2 : Int} {f3 : Int} {f4 : Int} {f5 : Int} {f6 : Int} {f7 : Bool} {f8 : List (S71)} {f9 : Int} {f10 : List (S79)} {f11 : Int} {f12 : List Int} {f13 : List Int} {f14 : List Int} {f15 : Int} {f16 : Bool} (h : IsS73 w0 W g f0 f1 f2 f3 f4 f5 f6 f7 f8 f9 f10 f11 f12 f13 f14 f15 f16) (x : Int) : IsS73 w0 (W.setCell ⟨g, 6, none⟩ (.int .i64 x)) g f0 f1 f2 f3 f4 f5 x f7 f8 f9 f10 f11 f12 f13 f14 f15 f16 := by
  obtain ⟨A0, c0, A8, c8, A10, c10, A12, c12, A13, c13, A14, c14, hb, hg, hr0, hr8, hr10, hr12, hr13, hr14⟩ := h
  exact ⟨A0, c0, A8, c8, A10, c10, A12, c12, A13, c13, A14, c14, by simpa using blk_set hb 6 (.int .i64 x), hg, hr0, hr8, hr10, hr12, hr13, hr14⟩
theorem cellS73_7 {W : World} {g : Nat} {A0 : Option Addr} {c0 : Nat} {A8 : Option Addr} {c8 : Nat} {A10 : Option Addr} {c10 : Nat} {A12 : Option Addr} {c12 : Nat} {A13 : Option Addr} {c13 : Nat} {A14 : Option Addr} {c14 : Nat} {f0 : List (S52)} {f1 : Int} {f2 : Int} {f3 : Int} {f4 : Int} {f5 : Int} {f6 : Int} {f7 : Bool} {f8 : List (S71)} {f9 : Int} {f10 : List (S79)} {f11 : Int} {f12 : List Int} {f13 : List Int} {f14 : List Int} {f15 : Int} {f16 : Bool} (h : W.heap[g]? = some (.cells #[.slice A0 f0.length c0, .int .u8 f1, .int .u8 f2, .int .u8 f3, .int .u8 f4, .int .i64 f5, .int .i64 f6, .bool f7, .slice A8 f8.length c8, .int .u8 f9, .slice A10 f10.length c10, .int .i64 f11, .slice A12 f12.length c12, .slice A13 f13.length c13, .slice A14 f14.length c14, .int .i64 f15, .bool f16] 73 (0, 0))) : W.cell? ⟨g, 7, none⟩ = some (.bool f7) := (blk_cell h 7).trans rfl
theorem IsS73.set_7 {w0 W : World} {g : Nat} {f0 : List (S52)} {f1 : Int} {f2 : Int} {f3 : Int} {f4 : Int} {f5 : Int} {f6 : Int} {f7 : Bool} {f8 : List (S71)} {f9 : Int} {f10 : List (S79)} {f11 : Int} {f12 : List Int} {f13 : List Int} {f14 : List Int} {f15 : Int} {f16 : Bool} (h : IsS73 w0 W g f0 f1 f2 f3 f4 f5 f6 f7 f8 f9 f10 f11 f12 f13 f14 f15 f16) (x : Bool) : IsS73 w0 (W.setCell ⟨g, 7, none⟩ (.bool x)) g f0 f1 f2 f3 f4 f5 f6 x f8 f9 f10 f11 f12 f13 f14 f15 f16 := by
  obtain ⟨A0, c0, A8, c8, A10, c10, A12, c12, A13, c13, A14, c14, hb, hg, hr0, hr8, hr10, hr12, hr13, hr14⟩ := h
  exact ⟨A0, c0, A8, c8, A10, c10, A12, c12, A13, c13, A14, c14, by simpa using blk_set hb 7 (.bool x), hg, hr0, hr8, hr10, hr12, hr13, hr14⟩
theorem cellS73_8 {W : World} {g : Nat} {A0 : Option Addr} {c0 : Nat} {A8 : Option Addr} {c8 : Nat} {A10 : Option Addr} {c10 : Nat} {A12 : Option Addr} {c12 : Nat} {A13 : Option Addr} {c13 : Nat} {A14 : Option Addr} {c14 : Nat} {f0 : List (S52)} {f1 : Int} {f2 : Int} {f3 : Int} {f4 : Int} {f5 : Int} {f6 : Int} {f7 : Bool} {f8 : List (S71)} {f9 : Int} {f10 : List (S79)} {f11 : Int} {f12 : List Int} {f13 : List Int} {f14 : List Int} {f15 : Int} {f16 : Bool} (h : W.heap[g]? = some (.cells #[.slice A0 f0.length c0, .int .u8 f1, .int .u8 f2, .int .u8 f3, .int .u8 f4, .int .i64 f5, .int .i64 f6, .bool f7, .slice A8 f8.length c8, .int .u8 f9, .slice A10 f10.length c10, .int .i64 f11, .slice A12 f12.length c12, .slice A13 f13.length c13, .slice A14 f14.length c14, .int .i64 f15, .bool f16] 73 (0, 0))) : W.cell? ⟨g, 8, none⟩ = some (.slice A8 f8.length c8) := (blk_cell h 8).trans rfl
theorem cellS73_9 {W : World} {g : Nat} {A0 : Option Addr} {c0 : Nat} {A8 : Option Addr} {c8 : Nat} {A10 : Option Addr} {c10 : Nat} {A12 : Option Addr} {c12 : Nat} {A13 : Option Addr} {c13 : Nat} {A14 : Option Addr} {c14 : Nat} {f0 : List (S52)} {f1 : Int} {f2 : Int} {f3 : Int} {f4 : Int} {f5 : Int} {f6 : Int} {f7 : Bool} {f8 : List (S71)} {f9 : Int} {f10 : List (S79)} {f11 : Int} {f12 : List Int} {f13 : List Int} {f14 : List Int} {f15 : Int} {f16 : Bool} (h : W.heap[g]? = some (.cells #[.slice A0 f0.length c0, .int .u8 f1, .int .u8 f2, .int .u8 f3, .int .u8 f4, .int .i64 f5, .int .i64 f6, .bool f7, .slice A8 f8.length c8, .int .u8 f9, .slice A10 f10.length c10, .int .i64 f11, .slice A12 f12.length c12, .slice A13 f13.length c13, .slice A14 f14.length c14, .int .i64 f15, .bool f16] 73 (0, 0))) : W.cell? ⟨g, 9, none⟩ = some (.int .u8 f9) := (blk_cell h 9).trans rfl
theorem IsS73.set_9 {w0 W : World} {g : Nat} {f0 : List (S52)} {f1 : Int} {f2 : Int} {f3 : Int} {f4 : Int} {f5 : Int} {f6 : Int} {f7 : Bool} {f8 : List (S71)} {f9 : Int} {f10 : List (S79)} {f11 : Int} {f12 : List Int} {f13 : List Int} {f14 : List Int} {f15 : Int} {f16 : Bool} (h : IsS73 w0 W g f0 f1 f2 f3 f4 f5 f6 f7 f8 f9 f10 f11 f12 f13 f14 f15 f16) (x : Int) : IsS73 w0 (W.setCell ⟨g, 9, none⟩ (.int .u8 x)) g f0 f1 f2 f3 f4 f5 f6 f7 f8 x f10 f11 f12 f13 f14 f15 f16 := by
  obtain ⟨A0, c0, A8, c8, A10, c10, A12, c12, A13, c13, A14, c14, hb, hg, hr0, hr8, hr10, hr12, hr13, hr14⟩ := h
  exact ⟨A0, c0, A8, c8, A10, c10, A12, c12, A13, c13, A14, c14, by simpa using blk_set hb 9 (.int .u8 x), hg, hr0, hr8, hr10, hr12, hr13, hr14⟩
theorem cellS73_10 {W : World} {g : Nat} {A0 : Option Addr} {c0 : Nat} {A8 : Option Addr} {c8 : Nat} {A10 : Option Addr} {c10 : Nat} {A12 : Option Addr} {c12 : Nat} {A13 : Option Addr} {c13 : Nat} {A14 : Option Addr} {c14 : Nat} {f0 : List (S52)} {f1 : Int} {f2 : Int} {f3 : Int} {f4 : Int} {f5 : Int} {f6 : Int} {f7 : Bool} {f8 : List (S71)} {f9 : Int} {f10 : List (S79)} {f11 : Int} {f12 : List Int} {f13 : List Int} {f14 : List Int} {f15 : Int} {f16 : Bool} (h : W.heap[g]? = some (.cells #[.slice A0 f0.length c0, .int .u8 f1, .int .u8 f2, .int .u8 f3, .int .u8 f4, .int .i64 f5, .int .i64 f6, .bool f7, .slice A8 f8.length c8, .int .u8 f9, .slice A10 f10.length c10, .int .i64 f11, .slice A12 f12.length c12, .slice A13 f13.length c13, .slice A14 f14.length c14, .int .i64 f15, .bool f16] 73 (0, 0))) : W.cell? ⟨g, 10, none⟩ = some (.slice A10 f10.length c10) := (blk_cell h 10).trans rfl
theorem cellS73_11 {W : World} {g : Nat} {A0 : Option Addr} {c0 : Nat} {A8 : Option Addr} {c8 : Nat} {A10 : Option Addr} {c10 : Nat} {A12 : Option Addr} {c12 : Nat} {A13 : Option Addr} {c13 : Nat} {A14 : Option Addr} {c14 : Nat} {f0 : List (S52)} {f1 : Int} {f2 : Int} {f3 : Int} {f4 : Int} {f5 : Int} {f6 : Int} {f7 : Bool} {f8 : List (S71)} {f9 : Int} {f10 : List (S79)} {f11 : Int} {f12 : List Int} {f13 : List Int} {f14 : List Int} {f15 : Int} {f16 : Bool} (h : W.heap[g]? = some (.cells #[.slice A0 f0.length c0, .int .u8 f1, .int .u8 f2, .int .u8 f3, .int .u8 f4, .int .i64 f5, .int .i64 f6, .bool f7, .slice A8 f8.length c8, .int .u8 f9, .slice A10 f10.length c10, .int .i64 f11, .slice A12 f12.length c12, .slice A13 f13.length c13, .slice A14 f14.length c14, .int .i64 f15, .bool f16] 73 (0, 0))) : W.cell? ⟨g, 11, none⟩ = some (.int .i64 f11) := (blk_cell h 11).trans rfl
theorem IsS73.set_11 {w0 W : World} {g : Nat} {f0 : List (S52)} {f1 : Int} {f2 : Int} {f3 : Int} {f4 : Int} {f5 : Int} {f6 : Int} {f7 : Bool} {f8 : List (S71)} {f9 : Int} {f10 : List (S79)} {f11 : Int} {f12 : List Int} {f13 : List Int} {f14 : List Int} {f15 : Int} {f16 : Bool} (h : IsS73 w0 W g f0 f1 f2 f3 f4 f5 f6 f7 f8 f9 f10 f11 f12 f13 f14 f15 f16) (x : Int) : IsS73 w0 (W.setCell ⟨g, 11, none⟩ (.int .i64 x)) g f0 f1 f2 f3 f4 f5 f6 f7 f8 f9 f10 x f12 f13 f14 f15 f16 := by
  obtain ⟨A0, c0, A8, c8, A10, c10, A12, c12, A13, c13, A14, c14, hb, hg, hr0, hr8, hr10, hr12, hr13, hr14⟩ := h
  exact ⟨A0, c0, A8, c8, A10, c10, A12, c12, A13, c13, A14, c14, by simpa using blk_set hb 11 (.int .i64 x), hg, hr0, hr8, hr10, hr12, hr13, hr14⟩
theorem cellS73_12 {W : World} {g : Nat} {A0 : Option Addr} {c0 : Nat} {A8 : Option Addr} {c8 : Nat} {A10 : Option Addr} {c10 : Nat} {A12 : Option Addr} {c12 : Nat} {A13 : Option Addr} {c13 : Nat} {A14 : Option Addr} {c14 : Nat} {f0 : List (S52)} {f1 : Int} {f2 : Int} {f3 : Int} {f4 : Int} {f5 : Int} {f6 : Int} {f7 : Bool} {f8 : List (S71)} {f9 : Int} {f10 : List (S79)} {f11 : Int} {f12 : List Int} {f13 : List Int} {f14 : List Int} {f15 : Int} {f16 : Bool} (h : W.heap[g]? = some (.cells #[.slice A0 f0.length c0, .int .u8 f1, .int .u8 f2, .int .u8 f3, .int .u8 f4, .int .i64 f5, .int .i64 f6, .bool f7, .slice A8 f8.length c8, .int .u8 f9, .slice A10 f10.length c10, .int .i64 f11, .slice A12 f12.length c12, .slice A13 f13.length c13, .slice A14 f14.length c14, .int .i64 f15, .bool f16] 73 (0, 0))) : W.cell? ⟨g, 12, none⟩ = some (.slice A12 f12.length c12) := (blk_cell h 12).trans rfl
theorem cellS73_13 {W : World} {g : Nat} {A0 : Option Addr} {c0 : Nat} {A8 : Option Addr} {c8 : Nat} {A10 : Option Addr} {c10 : Nat} {A12 : Option Addr} {c12 : Nat} {A13 : Option Addr} {c13 : Nat} {A14 : Option Addr} {c14 : Nat} {f0 : List (S52)} {f1 : Int} {f2 : Int} {f3 : Int} {f4 : Int} {f5 : Int} {f6 : Int} {f7 : Bool} {f8 : List (S71)} {f9 : Int} {f10 : List (S79)} {f11 : Int} {f12 : List Int} {f13 : List Int} {f14 : List Int} {f15 : Int} {f16 : Bool} (h : W.heap[g]? = some (.cells #[.slice A0 f0.length c0, .int .u8 f1, .int .u8 f2, .int .u8 f3, .int .u8 f4, .int .i64 f5, .int .i64 f6, .bool f7, .slice A8 f8.length c8, .int .u8 f9, .slice A10 f10.length c10, .int .i64 f11, .slice A12 f12.length c12, .slice A13 f13.length c13, .slice A14 f14.length c14, .int .i64 f15, .bool f16] 73 (0, 0))) : W.cell? ⟨g, 13, none⟩ = some (.slice A13 f13.length c13) := (blk_cell h 13).trans rfl
theorem cellS73_14 {W : World} {g : Nat} {A0 : Option Addr} {c0 : Nat} {A8 : Option Addr} {c8 : Nat} {A10 : Option Addr} {c10 : Nat} {A12 : Option Addr} {c12 : Nat} {A13 : Option Addr} {c13 : Nat} {A14 : Option Addr} {c14 : Nat} {f0 : List (S52)} {f1 : Int} {f2 : Int} {f3 : Int} {f4 : Int} {f5 : Int} {f6 : Int} {f7 : Bool} {f8 : List (S71)} {f9 : Int} {f10 : List (S79)} {f11 : Int} {f12 : List Int} {f13 : List Int} {f14 : List Int} {f15 : Int} {f16 : Bool} (h : W.heap[g]? = some (.cells #[.slice A0 f0.length c0, .int .u8 f1, .int .u8 f2, .int .u8 f3, .int .u8 f4, .int .i64 f5, .int .i64 f6, .bool f7, .slice A8 f8.length c8, .int .u8 f9, .slice A10 f10.length c10, .int .i64 f11, .slice A12 f12.length c12, .slice A13 f13.length c13, .slice A14 f14.length c14, .int .i64 f15, .bool f16] 73 (0, 0))) : W.cell? ⟨g, 14, none⟩ = some (.slice A14 f14.length c14) := (blk_cell h 14).trans rfl
theorem cellS73_15 {W : World} {g : Nat} {A0 : Option Addr} {c0 : Nat} {A8 : Option Addr} {c8 : Nat} {A10 : Option Addr} {c10 : Nat} {A12 : Option Addr} {c12 : Nat} {A13 : Option Addr} {c13 : Nat} {A14 : Option Addr} {c14 : Nat} {f0 : List (S52)} {f1 : Int} {f2 : Int} {f3 : Int} {f4 : Int} {f5 : Int} {f6 : Int} {f7 : Bool} {f8 : List (S71)} {f9 : Int} {f10 : List (S79)} {f11 : Int} {f12 : List Int} {f13 : List Int} {f14 : List Int} {f15 : Int} {f16 : Bool} (h : W.heap[g]? = some (.cells #[.slice A0 f0.length c0, .int .u8 f1, .int .u8 f2, .int .u8 f3, .int .u8 f4, .int .i64 f5, .int .i64 f6, .bool f7, .slice A8 f8.length c8, .int .u8 f9, .slice A10 f10.length c10, .int .i64 f11, .slice A12 f12.length c12, .slice A13 f13.length c13, .slice A14 f14.length c14, .int .i64 f15, .bool f16] 73 (0, 0))) : W.cell? ⟨g, 15, none⟩ = some (.int .i64 f15) := (blk_cell h 15).trans rfl
theorem IsS73.set_15 {w0 W : World} {g : Nat} {f0 : List (S52)} {f1 : Int} {f2 : Int} {f3 : Int} {f4 : Int} {f5 : Int} {f6 : Int} {f7 : Bool} {f8 : List (S71)} {f9 : Int} {f10 : List (S79)} {f11 : Int} {f12 : List Int} {f13 : List Int} {f14 : List Int} {f15 : Int} {f16 : Bool} (h : IsS73 w0 W g f0 f1 f2 f3 f4 f5 f6 f7 f8 f9 f10 f11 f12 f13 f14 f15 f16) (x : Int) : IsS73 w0 (W.setCell ⟨g, 15, none⟩ (.int .i64 x)) g f0 f1 f2 f3 f4 f5 f6 f7 f8 f9 f10 f11 f12 f13 f14 x f16 := by
  obtain ⟨A0, c0, A8, c8, A10, c10, A12, c12, A13, c13, A14, c14, hb, hg, hr0, hr8, hr10, hr12, hr13, hr14⟩ := h
  exact ⟨A0, c0, A8, c8, A10, c10, A12, c12, A13, c13, A14, c14, by simpa using blk_set hb 15 (.int .i64 x), hg, hr0, hr8, hr10, hr12, hr13, hr14⟩
theorem cellS73_16 {W : World} {g : Nat} {A0 : Option Addr} {c0 : Nat} {A8 : Option Addr} {c8 : Nat} {A10 : Option Addr} {c10 : Nat} {A12 : Option Addr} {c12 : Nat} {A13 : Option Addr} {c13 : Nat} {A14 : Option Addr} {c14 : Nat} {f0 : List (S52)} {f1 : Int} {f2 : Int} {f3 : Int} {f4 : Int} {f5 : Int} {f6 : Int} {f7 : Bool} {f8 : List (S71)} {f9 : Int} {f10 : List (S79)} {f11 : Int} {f12 : List Int} {f13 : List Int} {f14 : List Int} {f15 : Int} {f16 : Bool} (h : W.heap[g]? = some (.cells #[.slice A0 f0.length c0, .int .u8 f1, .int .u8 f2, .int .u8 f3, .int .u8 f4, .int .i64 f5, .int .i64 f6, .bool f7, .slice A8 f8.length c8, .int .u8 f9, .slice A10 f10.length c10, .int .i64 f11, .slice A12 f12.length c12, .slice A13 f13.length c13, .slice A14 f14.length c14, .int .i64 f15, .bool f16] 73 (0, 0))) : W.cell? ⟨g, 16, none⟩ = some (.bool f16) := (blk_cell h 16).trans rfl
theorem IsS73.set_16 {w0 W : World} {g : Nat} {f0 : List (S52)} {f1 : Int} {f2 : Int} {f3 : Int} {f4 : Int} {f5 : Int} {f6 : Int} {f7 : Bool} {f8 : List (S71)} {f9 : Int} {f10 : List (S79)} {f11 : Int} {f12 : List Int} {f13 : List Int} {f14 : List Int} {f15 : Int} {f16 : Bool} (h : IsS73 w0 W g f0 f1 f2 f3 f4 f5 f6 f7 f8 f9 f10 f11 f12 f13 f14 f15 f16) (x : Bool) : IsS73 w0 (W.setCell ⟨g, 16, none⟩ (.bool x)) g f0 f1 f2 f3 f4 f5 f6 f7 f8 f9 f10 f11 f12 f13 f14 f15 x := by
  obtain ⟨A0, c0, A8, c8, A10, c10, A12, c12, A13, c13, A14, c14, hb, hg, hr0, hr8, hr10, hr12, hr13, hr14⟩ := h
  exact ⟨A0, c0, A8, c8, A10, c10, A12, c12, A13, c13, A14, c14, by simpa using blk_set hb 16 (.bool x), hg, hr0, hr8, hr10, hr12, hr13, hr14⟩
theorem IsS73.new (w0 W : World) (A0 : Option Addr) (c0 : Nat) (A8 : Option Addr) (c8 : Nat) (A10 : Option Addr) (c10 : Nat) (A12 : Option Addr) (c12 : Nat) (A13 : Option Addr) (c13 : Nat) (A14 : Option Addr) (c14 : Nat) (f0 : List (S52)) (f1 : Int) (f2 : Int) (f3 : Int) (f4 : Int) (f5 : Int) (f6 : Int) (f7 : Bool) (f8 : List (S71)) (f9 : Int) (f10 : List (S79)) (f11 : Int) (f12 : List Int) (f13 : List Int) (f14 : List Int) (f15 : Int) (f16 : Bool) (hB : Below w0.heap.size w0 W) (hr0 : Kd.C k52 w0 A0 f0.length f0) (hr8 : Kd.C k71 w0 A8 f8.length f8) (hr10 : Kd.C k79 w0 A10 f10.length f10) (hr12 : Kd.C (Kd.int .i64) w0 A12 f12.length f12) (hr13 : Kd.C (Kd.int .i64) w0 A13 f13.length f13) (hr14 : Kd.C (Kd.int .i64) w0 A14 f14.length f14) : IsS73 w0 (W.alloc (.cells #[.slice A0 f0.length c0, .int .u8 f1, .int .u8 f2, .int .u8 f3, .int .u8 f4, .int .i64 f5, .int .i64 f6, .bool f7, .slice A8 f8.length c8, .int .u8 f9, .slice A10 f10.length c10, .int .i64 f11, .slice A12 f12.length c12, .slice A13 f13.length c13, .slice A14 f14.length c14, .int .i64 f15, .bool f16] 73)) W.heap.size f0 f1 f2 f3 f4 f5 f6 f7 f8 f9 f10 f11 f12 f13 f14 f15 f16 := ⟨A0, c0, A8, c8, A10, c10, A12, c12, A13, c13, A14, c14, by simpa using heap_alloc_new W _, hB.size, hr0, hr8, hr10, hr12, hr13, hr14⟩

/-! ### selvedgeref13_splitter_override: function 45 -/
def selvedgeref13_splitter_override.f (s0_0 : List (S52)) (s0_1 : Int) (s0_2 : Int) (s0_3 : Int) (s0_4 : Int) (s0_5 : Int) (s0_6 : Int) (s0_7 : Bool) (s0_8 : List (S71)) (s0_9 : Int) (s0_10 : List (S79)) (s0_11 : Int) (s0_12 : List Int) (s0_13 : List Int) (s0_14 : List Int) (s0_15 : Int) (s0_16 : Bool) : Option (ByteArray × Int × Int × Int × Int × Int × Int × Bool × Int × Int × Int × Bool) := if s0_3 = 3 then ((selvedgeref13_either.f (s0_2 != 0) (⟨#[226, 128, 173]⟩ : ByteArray) (⟨#[226, 128, 174]⟩ : ByteArray)).bind fun t147 => (some (t147, s0_1, s0_2, s0_3, s0_4, s0_5, s0_6, s0_7, s0_9, s0_11, s0_15, s0_16))) else (if s0_3 = 4 then ((selvedgeref13_either.f (s0_2 != 0) (⟨#[226, 128, 173]⟩ : ByteArray) (⟨#[226, 128, 174]⟩ : ByteArray)).bind fun t148 => (some (t148, s0_1, s0_2, s0_3, s0_4, s0_5, s0_6, s0_7, s0_9, s0_11, s0_15, s0_16))) else (some ((⟨#[]⟩ : ByteArray), s0_1, s0_2, s0_3, s0_4, s0_5, s0_6, s0_7, s0_9, s0_11, s0_15, s0_16)))
set_option maxHeartbeats 8000000 in
set_option maxRecDepth 100000 in
theorem selvedgeref13_splitter_override.calls (g : Nat) (s0_0 : List (S52)) (s0_1 : Int) (s0_2 : Int) (s0_3 : Int) (s0_4 : Int) (s0_5 : Int) (s0_6 : Int) (s0_7 : Bool) (s0_8 : List (S71)) (s0_9 : Int) (s0_10 : List (S79)) (s0_11 : Int) (s0_12 : List Int) (s0_13 : List Int) (s0_14 : List Int) (s0_15 : Int) (s0_16 : Bool) (r1 : ByteArray) (r2 : Int) (r3 : Int) (r4 : Int) (r5 : Int) (r6 : Int) (r7 : Int) (r8 : Bool) (r9 : Int) (r10 : Int) (r11 : Int) (r12 : Bool) (w0 w : World) (hI : IsS73 w0 w g s0_0 s0_1 s0_2 s0_3 s0_4 s0_5 s0_6 s0_7 s0_8 s0_9 s0_10 s0_11 s0_12 s0_13 s0_14 s0_15 s0_16) (hB : Below w0.heap.size w0 w) (h : selvedgeref13_splitter_override.f s0_0 s0_1 s0_2 s0_3 s0_4 s0_5 s0_6 s0_7 s0_8 s0_9 s0_10 s0_11 s0_12 s0_13 s0_14 s0_15 s0_16 = some (r1, r2, r3, r4, r5, r6, r7, r8, r9, r10, r11, r12)) :
    Calls Tryd.prog 45 #[.pointer (some ⟨g, 0, none⟩)] w fun e w' => e = .returned (.string r1) ∧ IsS73 w0 w' g s0_0 r2 r3 r4 r5 r6 r7 r8 s0_8 r9 s0_10 r10 s0_12 s0_13 s0_14 r11 r12 ∧ Below w0.heap.size w0 w' ∧ KeepBut w w' g none := by
  have HI0 := Aside0.mk hI
  have HK := Aside0.mk (KeepBut.refl w g none)
  have HL := Aside0.mk hB.size
  clear hI
  have HW0 := Aside0.mk hB.size
  have HB := Aside0.mk hB
  clear hB
  have H : (if s0_3 = 3 then ((selvedgeref13_either.f (s0_2 != 0) (⟨#[226, 128, 173]⟩ : ByteArray) (⟨#[226, 128, 174]⟩ : ByteArray)).bind fun t147 => (some (t147, s0_1, s0_2, s0_3, s0_4, s0_5, s0_6, s0_7, s0_9, s0_11, s0_15, s0_16))) else (if s0_3 = 4 then ((selvedgeref13_either.f (s0_2 != 0) (⟨#[226, 128, 173]⟩ : ByteArray) (⟨#[226, 128, 174]⟩ : ByteArray)).bind fun t148 => (some (t148, s0_1, s0_2, s0_3, s0_4, s0_5, s0_6, s0_7, s0_9, s0_11, s0_15, s0_16))) else (some ((⟨#[]⟩ : ByteArray), s0_1, s0_2, s0_3, s0_4, s0_5, s0_6, s0_7, s0_9, s0_11, s0_15, s0_16)))) = some (r1, r2, r3, r4, r5, r6, r7, r8, r9, r10, r11, r12) := h
  clear h
  by_cases c2 : s0_3 = 3
  · rw [if_pos c2] at H
    have c2b0 : (s0_3 == 3) = true := beq_iff_eq.mpr c2
    have c2b1 : (s0_3 != 3) = false := bne_eq_false_iff_eq.mpr c2
    clear c2
    replace H := Option.bind_eq_some_iff.mp H
    obtain ⟨t147, A30, H⟩ := H
    replace H : (some (t147, s0_1, s0_2, s0_3, s0_4, s0_5, s0_6, s0_7, s0_9, s0_11, s0_15, s0_16)) = some (r1, r2, r3, r4, r5, r6, r7, r8, r9, r10, r11, r12) := H
    have A3 := Aside0.mk A30
    clear A30
    simp only [Option.some.injEq, Prod.mk.injEq] at H
    obtain ⟨rfl, rfl, rfl, rfl, rfl, rfl, rfl, rfl, rfl, rfl, rfl, rfl⟩ := H
    obtain ⟨ASz4_0, cSz4_0, ASz4_8, cSz4_8, ASz4_10, cSz4_10, ASz4_12, cSz4_12, ASz4_13, cSz4_13, ASz4_14, cSz4_14, HGz4, hgz4, HSz4_0, HSz4_8, HSz4_10, HSz4_12, HSz4_13, HSz4_14⟩ := HI0.out
    have hcz4_0 := cellS73_0 HGz4
    have hcz4_1 := cellS73_1 HGz4
    have hcz4_2 := cellS73_2 HGz4
    have hcz4_3 := cellS73_3 HGz4
    have hcz4_4 := cellS73_4 HGz4
    have hcz4_5 := cellS73_5 HGz4
    have hcz4_6 := cellS73_6 HGz4
    have hcz4_7 := cellS73_7 HGz4
    have hcz4_8 := cellS73_8 HGz4
    have hcz4_9 := cellS73_9 HGz4
    have hcz4_10 := cellS73_10 HGz4
    have hcz4_11 := cellS73_11 HGz4
    have hcz4_12 := cellS73_12 HGz4
    have hcz4_13 := cellS73_13 HGz4
    have hcz4_14 := cellS73_14 HGz4
    have hcz4_15 := cellS73_15 HGz4
    have hcz4_16 := cellS73_16 HGz4
    have hfz4_1 := blk_frozen HGz4 1
    have hfz4_2 := blk_frozen HGz4 2
    have hfz4_3 := blk_frozen HGz4 3
    have hfz4_4 := blk_frozen HGz4 4
    have hfz4_5 := blk_frozen HGz4 5
    have hfz4_6 := blk_frozen HGz4 6
    have hfz4_7 := blk_frozen HGz4 7
    have hfz4_9 := blk_frozen HGz4 9
    have hfz4_11 := blk_frozen HGz4 11
    have hfz4_15 := blk_frozen HGz4 15
    have hfz4_16 := blk_frozen HGz4 16
    clear HGz4 hgz4
    go_enter Tryd.func45, Tryd.ntmps45
    go_wp2_with (first | ((with_reducible refine gate_callee (f := 31) rfl ?_); refine goesL_ (some 23) rfl rfl Tryd.func31 (by kernel_rfl) rfl #[.bool (s0_2 != 0), .string (⟨#[226, 128, 173]⟩ : ByteArray), .string (⟨#[226, 128, 174]⟩ : ByteArray)] rfl (by (try simp only [List.map_toArray, List.map_cons, List.map_nil]); first | done | rfl | (simp only [List.length_drop, List.length_take]; rfl)) ?_; (with_reducible refine (selvedgeref13_either.calls (s0_2 != 0) (⟨#[226, 128, 173]⟩ : ByteArray) (⟨#[226, 128, 174]⟩ : ByteArray) t147 _ A3.out).mono ?_); rintro e w' ⟨rfl, ⟨nd, rfl⟩⟩; refine ⟨_, rfl, ?_⟩))
    go_ret
    exact ⟨by first | rfl | (simp [errW_none, errW_some] <;> rfl) | (simp [*, errW_none, errW_some] <;> rfl), by repeat (first | (with_reducible first | exact HI0.out | apply IsS73.alloc | apply IsS73.drewN | apply IsS73.drew | apply IsS73.set_1 | apply IsS73.set_2 | apply IsS73.set_3 | apply IsS73.set_4 | apply IsS73.set_5 | apply IsS73.set_6 | apply IsS73.set_7 | apply IsS73.set_9 | apply IsS73.set_11 | apply IsS73.set_15 | apply IsS73.set_16) | exact HI0.out), by repeat (first | (with_reducible first | exact HB.out | apply below_alloc | apply pw_below_drewN | apply below_drew1 | refine below_set ?_ (IsS73.ge HI0.out)) | exact HB.out), by repeat (first | (with_reducible first | exact HK.out | apply KeepBut.set_ | apply keep_drewN | apply keep_drew | apply keep_alloc) | exact HK.out)⟩
  · rw [if_neg c2] at H
    have c2b0 : (s0_3 == 3) = false := beq_eq_false_iff_ne.mpr c2
    have c2b1 : (s0_3 != 3) = true := bne_iff_ne.mpr c2
    by_cases c5 : s0_3 = 4
    · rw [if_pos c5] at H
      have c5b0 : (s0_3 == 4) = true := beq_iff_eq.mpr c5
      have c5b1 : (s0_3 != 4) = false := bne_eq_false_iff_eq.mpr c5
      clear c5
      replace H := Option.bind_eq_some_iff.mp H
      obtain ⟨t148, A60, H⟩ := H
      replace H : (some (t148, s0_1, s0_2, s0_3, s0_4, s0_5, s0_6, s0_7, s0_9, s0_11, s0_15, s0_16)) = some (r1, r2, r3, r4, r5, r6, r7, r8, r9, r10, r11, r12) := H
      have A6 := Aside0.mk A60
      clear A60
      simp only [Option.some.injEq, Prod.mk.injEq] at H
      obtain ⟨rfl, rfl, rfl, rfl, rfl, rfl, rfl, rfl, rfl, rfl, rfl, rfl⟩ := H
      obtain ⟨ASz7_0, cSz7_0, ASz7_8, cSz7_8, ASz7_10, cSz7_10, ASz7_12, cSz7_12, ASz7_13, cSz7_13, ASz7_14, cSz7_14, HGz7, hgz7, HSz7_0, HSz7_8, HSz7_10, HSz7_12, HSz7_13, HSz7_14⟩ := HI0.out
      have hcz7_0 := cellS73_0 HGz7
      have hcz7_1 := cellS73_1 HGz7
      have hcz7_2 := cellS73_2 HGz7
      have hcz7_3 := cellS73_3 HGz7
      have hcz7_4 := cellS73_4 HGz7
      have hcz7_5 := cellS73_5 HGz7
      have hcz7_6 := cellS73_6 HGz7
      have hcz7_7 := cellS73_7 HGz7
      have hcz7_8 := cellS73_8 HGz7
      have hcz7_9 := cellS73_9 HGz7
      have hcz7_10 := cellS73_10 HGz7
      have hcz7_11 := cellS73_11 HGz7
      have hcz7_12 := cellS73_12 HGz7
      have hcz7_13 := cellS73_13 HGz7
      have hcz7_14 := cellS73_14 HGz7
      have hcz7_15 := cellS73_15 HGz7
      have hcz7_16 := cellS73_16 HGz7
      have hfz7_1 := blk_frozen HGz7 1
      have hfz7_2 := blk_frozen HGz7 2
      have hfz7_3 := blk_frozen HGz7 3
      have hfz7_4 := blk_frozen HGz7 4
      have hfz7_5 := blk_frozen HGz7 5
      have hfz7_6 := blk_frozen HGz7 6
      have hfz7_7 := blk_frozen HGz7 7
      have hfz7_9 := blk_frozen HGz7 9
      have hfz7_11 := blk_frozen HGz7 11
      have hfz7_15 := blk_frozen HGz7 15
      have hfz7_16 := blk_frozen HGz7 16
      clear HGz7 hgz7
      go_enter Tryd.func45, Tryd.ntmps45
      go_wp2_with (first | ((with_reducible refine gate_callee (f := 31) rfl ?_); refine goesL_ (some 23) rfl rfl Tryd.func31 (by kernel_rfl) rfl #[.bool (s0_2 != 0), .string (⟨#[226, 128, 173]⟩ : ByteArray), .string (⟨#[226, 128, 174]⟩ : ByteArray)] rfl (by (try simp only [List.map_toArray, List.map_cons, List.map_nil]); first | done | rfl | (simp only [List.length_drop, List.length_take]; rfl)) ?_; (with_reducible refine (selvedgeref13_either.calls (s0_2 != 0) (⟨#[226, 128, 173]⟩ : ByteArray) (⟨#[226, 128, 174]⟩ : ByteArray) t148 _ A6.out).mono ?_); rintro e w' ⟨rfl, ⟨nd, rfl⟩⟩; refine ⟨_, rfl, ?_⟩))
      go_ret
      exact ⟨by first | rfl | (simp [errW_none, errW_some] <;> rfl) | (simp [*, errW_none, errW_some] <;> rfl), by repeat (first | (with_reducible first | exact HI0.out | apply IsS73.alloc | apply IsS73.drewN | apply IsS73.drew | apply IsS73.set_1 | apply IsS73.set_2 | apply IsS73.set_3 | apply IsS73.set_4 | apply IsS73.set_5 | apply IsS73.set_6 | apply IsS73.set_7 | apply IsS73.set_9 | apply IsS73.set_11 | apply IsS73.set_15 | apply IsS73.set_16) | exact HI0.out), by repeat (first | (with_reducible first | exact HB.out | apply below_alloc | apply pw_below_drewN | apply below_drew1 | refine below_set ?_ (IsS73.ge HI0.out)) | exact HB.out), by repeat (first | (with_reducible first | exact HK.out | apply KeepBut.set_ | apply keep_drewN | apply keep_drew | apply keep_alloc) | exact HK.out)⟩
    · rw [if_neg c5] at H
      have c5b0 : (s0_3 == 4) = false := beq_eq_false_iff_ne.mpr c5
      have c5b1 : (s0_3 != 4) = true := bne_iff_ne.mpr c5
      simp only [Option.some.injEq, Prod.mk.injEq] at H
      obtain ⟨rfl, rfl, rfl, rfl, rfl, rfl, rfl, rfl, rfl, rfl, rfl, rfl⟩ := H
      obtain ⟨ASz8_0, cSz8_0, ASz8_8, cSz8_8, ASz8_10, cSz8_10, ASz8_12, cSz8_12, ASz8_13, cSz8_13, ASz8_14, cSz8_14, HGz8, hgz8, HSz8_0, HSz8_8, HSz8_10, HSz8_12, HSz8_13, HSz8_14⟩ := HI0.out
      have hcz8_0 := cellS73_0 HGz8
      have hcz8_1 := cellS73_1 HGz8
      have hcz8_2 := cellS73_2 HGz8
      have hcz8_3 := cellS73_3 HGz8
      have hcz8_4 := cellS73_4 HGz8
      have hcz8_5 := cellS73_5 HGz8
      have hcz8_6 := cellS73_6 HGz8
      have hcz8_7 := cellS73_7 HGz8
      have hcz8_8 := cellS73_8 HGz8
      have hcz8_9 := cellS73_9 HGz8
      have hcz8_10 := cellS73_10 HGz8
      have hcz8_11 := cellS73_11 HGz8
      have hcz8_12 := cellS73_12 HGz8
      have hcz8_13 := cellS73_13 HGz8
      have hcz8_14 := cellS73_14 HGz8
      have hcz8_15 := cellS73_15 HGz8
      have hcz8_16 := cellS73_16 HGz8
      have hfz8_1 := blk_frozen HGz8 1
      have hfz8_2 := blk_frozen HGz8 2
      have hfz8_3 := blk_frozen HGz8 3
      have hfz8_4 := blk_frozen HGz8 4
      have hfz8_5 := blk_frozen HGz8 5
      have hfz8_6 := blk_frozen HGz8 6
      have hfz8_7 := blk_frozen HGz8 7
      have hfz8_9 := blk_frozen HGz8 9
      have hfz8_11 := blk_frozen HGz8 11
      have hfz8_15 := blk_frozen HGz8 15
      have hfz8_16 := blk_frozen HGz8 16
      clear HGz8 hgz8
      go_enter Tryd.func45, Tryd.ntmps45
      go_wp2
      go_ret
      exact ⟨by first | rfl | (simp [errW_none, errW_some] <;> rfl) | (simp [*, errW_none, errW_some] <;> rfl), by repeat (first | (with_reducible first | exact HI0.out | apply IsS73.alloc | apply IsS73.drewN | apply IsS73.drew | apply IsS73.set_1 | apply IsS73.set_2 | apply IsS73.set_3 | apply IsS73.set_4 | apply IsS73.set_5 | apply IsS73.set_6 | apply IsS73.set_7 | apply IsS73.set_9 | apply IsS73.set_11 | apply IsS73.set_15 | apply IsS73.set_16) | exact HI0.out), by repeat (first | (with_reducible first | exact HB.out | apply below_alloc | apply pw_below_drewN | apply below_drew1 | refine below_set ?_ (IsS73.ge HI0.out)) | exact HB.out), by repeat (first | (with_reducible first | exact HK.out | apply KeepBut.set_ | apply keep_drewN | apply keep_drew | apply keep_alloc) | exact HK.out)⟩

/-! ### selvedgeref13_Isolates: function 54 -/
def selvedgeref13_Isolates.f (a0_0 : Int) (a0_1 : Int) (a0_2 : Int) (a0_3 : Int) (a0_4 : Int) (a0_5 : Int) : Option (Bool) := if a0_2 = 2 then (some true) else (if a0_2 = 4 then (some true) else (some (a0_2 == 5)))
set_option maxHeartbeats 8000000 in
set_option maxRecDepth 100000 in
theorem selvedgeref13_Isolates.calls (a0_0 : Int) (a0_1 : Int) (a0_2 : Int) (a0_3 : Int) (a0_4 : Int) (a0_5 : Int) (r : Bool) (w : World) (h : selvedgeref13_Isolates.f a0_0 a0_1 a0_2 a0_3 a0_4 a0_5 = some r) :
    Calls Tryd.prog 54 #[.agg #[.int .u8 a0_0, .int .u8 a0_1, .int .u8 a0_2, .int .u8 a0_3, .int .i64 a0_4, .int .i64 a0_5]] w fun e w' => e = .returned (.bool r) ∧ Below w.heap.size w w' := by
  have hu52 := Tryd.underlying52
  have HB := Aside0.mk (Below.refl w.heap.size w)
  have H : (if a0_2 = 2 then (some true) else (if a0_2 = 4 then (some true) else (some (a0_2 == 5)))) = some r := h
  clear h
  by_cases c2 : a0_2 = 2
  · rw [if_pos c2] at H
    have c2b0 : (a0_2 == 2) = true := beq_iff_eq.mpr c2
    have c2b1 : (a0_2 != 2) = false := bne_eq_false_iff_eq.mpr c2
    clear c2
    obtain rfl := Option.some.inj H
    go_enter Tryd.func54, Tryd.ntmps54
    go_wp2_with (first | ((with_reducible refine gate_dst (N := 1) rfl ?_); refine box_event ?hg (N := 1) ?hd (cs := #[.int .u8 a0_0, .int .u8 a0_1, .int .u8 a0_2, .int .u8 a0_3, .int .i64 a0_4, .int .i64 a0_5]) (t := 52) ?hr ?_; (case hd => rfl); (case hg => rfl); (case hr => first | (go_simp; done) | (go_simp; rfl)); intro gb149 hg w3 hbox hb; have n0_ := Aside0.mk (below_step (by repeat (first | (with_reducible first | exact HB.out | apply below_alloc | apply pw_below_drewN | apply below_drew1) | exact HB.out)) hb); have n1_ := Aside0.mk (hbox); have n2_ := Aside0.mk ((by rw [hg]; exact (below_size (by repeat (first | (with_reducible first | exact HB.out | apply below_alloc | apply pw_below_drewN | apply below_drew1) | exact HB.out))) : w.heap.size ≤ gb149)); have n3_ := Aside0.mk ((by rw [hg]; exact (below_size (by repeat (first | (with_reducible first | exact HB.out | apply below_alloc | apply pw_below_drewN | apply below_drew1) | exact HB.out))) : w.heap.size ≤ gb149)); clear HB; have HB := n0_; have BK149 := n1_; have GW149 := n2_; have GE149 := n3_; clear n0_ n1_ n2_ n3_; clear hb hbox hg; have hcz4_0 : w3.cell? ⟨gb149, 0, none⟩ = some (.int .u8 a0_0) := (blk_cell BK149.out 0).trans rfl; have hcz4_1 : w3.cell? ⟨gb149, 1, none⟩ = some (.int .u8 a0_1) := (blk_cell BK149.out 1).trans rfl; have hcz4_2 : w3.cell? ⟨gb149, 2, none⟩ = some (.int .u8 a0_2) := (blk_cell BK149.out 2).trans rfl; have hcz4_3 : w3.cell? ⟨gb149, 3, none⟩ = some (.int .u8 a0_3) := (blk_cell BK149.out 3).trans rfl; have hcz4_4 : w3.cell? ⟨gb149, 4, none⟩ = some (.int .i64 a0_4) := (blk_cell BK149.out 4).trans rfl; have hcz4_5 : w3.cell? ⟨gb149, 5, none⟩ = some (.int .i64 a0_5) := (blk_cell BK149.out 5).trans rfl; have hfz4_0 := blk_frozen BK149.out 0; have hfz4_1 := blk_frozen BK149.out 1; have hfz4_2 := blk_frozen BK149.out 2; have hfz4_3 := blk_frozen BK149.out 3; have hfz4_4 := blk_frozen BK149.out 4; have hfz4_5 := blk_frozen BK149.out 5))
    go_ret
    exact ⟨by first | rfl | (simp [errW_none, errW_some] <;> rfl) | (simp [*, errW_none, errW_some] <;> rfl), by repeat (first | (with_reducible first | exact HB.out | apply below_alloc | apply pw_below_drewN | apply below_drew1 | refine below_set ?_ GE149.out) | exact HB.out)⟩
  · rw [if_neg c2] at H
    have c2b0 : (a0_2 == 2) = false := beq_eq_false_iff_ne.mpr c2
    have c2b1 : (a0_2 != 2) = true := bne_iff_ne.mpr c2
    by_cases c5 : a0_2 = 4
    · rw [if_pos c5] at H
      have c5b0 : (a0_2 == 4) = true := beq_iff_eq.mpr c5
      have c5b1 : (a0_2 != 4) = false := bne_eq_false_iff_eq.mpr c5
      clear c5
      obtain rfl := Option.some.inj H
      go_enter Tryd.func54, Tryd.ntmps54
      go_wp2_with (first | ((with_reducible refine gate_dst (N := 1) rfl ?_); refine box_event ?hg (N := 1) ?hd (cs := #[.int .u8 a0_0, .int .u8 a0_1, .int .u8 a0_2, .int .u8 a0_3, .int .i64 a0_4, .int .i64 a0_5]) (t := 52) ?hr ?_; (case hd => rfl); (case hg => rfl); (case hr => first | (go_simp; done) | (go_simp; rfl)); intro gb149 hg w6 hbox hb; have n0_ := Aside0.mk (below_step (by repeat (first | (with_reducible first | exact HB.out | apply below_alloc | apply pw_below_drewN | apply below_drew1) | exact HB.out)) hb); have n1_ := Aside0.mk (hbox); have n2_ := Aside0.mk ((by rw [hg]; exact (below_size (by repeat (first | (with_reducible first | exact HB.out | apply below_alloc | apply pw_below_drewN | apply below_drew1) | exact HB.out))) : w.heap.size ≤ gb149)); have n3_ := Aside0.mk ((by rw [hg]; exact (below_size (by repeat (first | (with_reducible first | exact HB.out | apply below_alloc | apply pw_below_drewN | apply below_drew1) | exact HB.out))) : w.heap.size ≤ gb149)); clear HB; have HB := n0_; have BK149 := n1_; have GW149 := n2_; have GE149 := n3_; clear n0_ n1_ n2_ n3_; clear hb hbox hg; have hcz7_0 : w6.cell? ⟨gb149, 0, none⟩ = some (.int .u8 a0_0) := (blk_cell BK149.out 0).trans rfl; have hcz7_1 : w6.cell? ⟨gb149, 1, none⟩ = some (.int .u8 a0_1) := (blk_cell BK149.out 1).trans rfl; have hcz7_2 : w6.cell? ⟨gb149, 2, none⟩ = some (.int .u8 a0_2) := (blk_cell BK149.out 2).trans rfl; have hcz7_3 : w6.cell? ⟨gb149, 3, none⟩ = some (.int .u8 a0_3) := (blk_cell BK149.out 3).trans rfl; have hcz7_4 : w6.cell? ⟨gb149, 4, none⟩ = some (.int .i64 a0_4) := (blk_cell BK149.out 4).trans rfl; have hcz7_5 : w6.cell? ⟨gb149, 5, none⟩ = some (.int .i64 a0_5) := (blk_cell BK149.out 5).trans rfl; have hfz7_0 := blk_frozen BK149.out 0; have hfz7_1 := blk_frozen BK149.out 1; have hfz7_2 := blk_frozen BK149.out 2; have hfz7_3 := blk_frozen BK149.out 3; have hfz7_4 := blk_frozen BK149.out 4; have hfz7_5 := blk_frozen BK149.out 5))
      go_ret
      exact ⟨by first | rfl | (simp [errW_none, errW_some] <;> rfl) | (simp [*, errW_none, errW_some] <;> rfl), by repeat (first | (with_reducible first | exact HB.out | apply below_alloc | apply pw_below_drewN | apply below_drew1 | refine below_set ?_ GE149.out) | exact HB.out)⟩
    · rw [if_neg c5] at H
      have c5b0 : (a0_2 == 4) = false := beq_eq_false_iff_ne.mpr c5
      have c5b1 : (a0_2 != 4) = true := bne_iff_ne.mpr c5
      obtain rfl := Option.some.inj H
      go_enter Tryd.func54, Tryd.ntmps54
      go_wp2_with (first | ((with_reducible refine gate_dst (N := 1) rfl ?_); refine box_event ?hg (N := 1) ?hd (cs := #[.int .u8 a0_0, .int .u8 a0_1, .int .u8 a0_2, .int .u8 a0_3, .int .i64 a0_4, .int .i64 a0_5]) (t := 52) ?hr ?_; (case hd => rfl); (case hg => rfl); (case hr => first | (go_simp; done) | (go_simp; rfl)); intro gb149 hg w8 hbox hb; have n0_ := Aside0.mk (below_step (by repeat (first | (with_reducible first | exact HB.out | apply below_alloc | apply pw_below_drewN | apply below_drew1) | exact HB.out)) hb); have n1_ := Aside0.mk (hbox); have n2_ := Aside0.mk ((by rw [hg]; exact (below_size (by repeat (first | (with_reducible first | exact HB.out | apply below_alloc | apply pw_below_drewN | apply below_drew1) | exact HB.out))) : w.heap.size ≤ gb149)); have n3_ := Aside0.mk ((by rw [hg]; exact (below_size (by repeat (first | (with_reducible first | exact HB.out | apply below_alloc | apply pw_below_drewN | apply below_drew1) | exact HB.out))) : w.heap.size ≤ gb149)); clear HB; have HB := n0_; have BK149 := n1_; have GW149 := n2_; have GE149 := n3_; clear n0_ n1_ n2_ n3_; clear hb hbox hg; have hcz9_0 : w8.cell? ⟨gb149, 0, none⟩ = some (.int .u8 a0_0) := (blk_cell BK149.out 0).trans rfl; have hcz9_1 : w8.cell? ⟨gb149, 1, none⟩ = some (.int .u8 a0_1) := (blk_cell BK149.out 1).trans rfl; have hcz9_2 : w8.cell? ⟨gb149, 2, none⟩ = some (.int .u8 a0_2) := (blk_cell BK149.out 2).trans rfl; have hcz9_3 : w8.cell? ⟨gb149, 3, none⟩ = some (.int .u8 a0_3) := (blk_cell BK149.out 3).trans rfl; have hcz9_4 : w8.cell? ⟨gb149, 4, none⟩ = some (.int .i64 a0_4) := (blk_cell BK149.out 4).trans rfl; have hcz9_5 : w8.cell? ⟨gb149, 5, none⟩ = some (.int .i64 a0_5) := (blk_cell BK149.out 5).trans rfl; have hfz9_0 := blk_frozen BK149.out 0; have hfz9_1 := blk_frozen BK149.out 1; have hfz9_2 := blk_frozen BK149.out 2; have hfz9_3 := blk_frozen BK149.out 3; have hfz9_4 := blk_frozen BK149.out 4; have hfz9_5 := blk_frozen BK149.out 5))
      go_ret
      exact ⟨by first | rfl | (simp [errW_none, errW_some] <;> rfl) | (simp [*, errW_none, errW_some] <;> rfl), by repeat (first | (with_reducible first | exact HB.out | apply below_alloc | apply pw_below_drewN | apply below_drew1 | refine below_set ?_ GE149.out) | exact HB.out)⟩

-- NOT PRINTED: function 46 (selvedgeref13_splitter_piece)

-- NOT PRINTED: function 27 (selvedgeref13_splitter_begin)

-- NOT PRINTED: function 29 (selvedgeref13_splitter_close)

/-! ### selvedgeref01_Ranges: function 32 (by hand) -/
def mkRange (r : T3) : S88 := ⟨r.1, r.2.1, r.2.2⟩
def selvedgeref01_Ranges.f : Option (List S88) := some (tabC.map mkRange)
theorem selvedgeref01_Ranges.build (x y c : Int) (w : World) : (Instr.build 88 #[(0, .int .i32 x), (1, .int .i32 y), (2, .int .u8 c)]).run Tryd.prog w = .ok (.agg #[.int .i32 x, .int .i32 y, .int .u8 c]) w := by kernel_rfl
set_option maxRecDepth 100000 in
theorem selvedgeref01_Ranges.calls (r : List S88) (w : World) (h : selvedgeref01_Ranges.f = some r) :
    Calls Tryd.prog 32 #[] w fun e w' => ∃ v0_ : Value, e = .returned (v0_) ∧ Kd.R k88 88 w' w.heap.size (fun _ => True) v0_ r ∧ Below w.heap.size w w' := by
  obtain rfl := Option.some.inj h
  clear h
  go_enter Tryd.func32, Tryd.ntmps32
  iterate 10 go_step
  refine wp_region_lit ?_
  refine wpList_take3 selvedgeref01_Ranges.build 146 1 tabC (frame3 (.slice none 0 0) tabC [undef]) (by kernel_rfl) (by kernel_rfl) ?_
  refine drop_event (v := .slice (some ⟨w.heap.size, 0, none⟩) 146 146) (w1 := w.alloc (.cells (cells3 tabC).toArray 88)) 146 (lt_of_ble (by kernel_rfl)) (d := some 147) (frame3 (.slice none 0 0) tabC [.slice (some ⟨w.heap.size, 0, none⟩) 146 146]) (by kernel_rfl) (by kernel_rfl) (by kernel_rfl) (by kernel_rfl) ?_
  refine drop_event (v := .slice (some ⟨w.heap.size, 0, none⟩) 146 146) (w1 := w.alloc (.cells (cells3 tabC).toArray 88)) 147 (lt_of_ble (by kernel_rfl)) (d := some 0) (frame3 (.slice (some ⟨w.heap.size, 0, none⟩) 146 146) tabC [.slice (some ⟨w.heap.size, 0, none⟩) 146 146]) (by kernel_rfl) (by kernel_rfl) (by kernel_rfl) (by kernel_rfl) ?_
  refine drop_end 148 (Nat.le_of_ble_eq_true (by kernel_rfl)) ?_
  go_step
  go_step
  go_step
  refine bodyPost_ret (v := .slice (some ⟨w.heap.size, 0, none⟩) 146 146) (by kernel_rfl) rfl ⟨_, rfl, ?_, (Below.refl _ _).alloc (Nat.le_refl _) _⟩
  have hlen : (tabC.map mkRange).length = 146 := by rw [List.length_map]; kernel_rfl
  have hr : Reps (k88.M (w.alloc (.cells (cells3 tabC).toArray 88)) w.heap.size (fun k => True ∧ some k ≠ (Value.slice (some ⟨w.heap.size, 0, none⟩) 146 146).ownBlock)) 3 (tabC.map mkRange) (cells3 tabC) :=
    reps_flat mkRange cs3 (fun _ => rfl) (fun x => k88_mkM _ _ _ (mkRange x)) tabC
  have ho := OwnRow.lit (e := 88) w w.heap.size hr (Nat.le_refl _) (by rw [hlen]; decide)
  rw [hlen] at ho
  exact ⟨fun _ _ => trivial, ho⟩

/-! ### selvedgeref01_Class: function 16 -/
mutual
def selvedgeref01_Class.j0 : Nat → Int → Bool → Option (Int)
  | 0, _, _ => none
  | k + 1, x0, x18 => if x18 = true then (some 1) else ((selvedgeref01_Ranges.f).bind fun t166 => (selvedgeref01_Class.l0 k x0 t166 0))
def selvedgeref01_Class.l0 : Nat → Int → List (S88) → Int → Option (Int)
  | 0, _, _, _ => none
  | k + 1, x0, x3, x4 => if x4 < (x3.length : Int) then (if 0 ≤ x4 then (if x0 ≥ ((rd_T88 x3 x4).f0) then (if x0 ≤ ((rd_T88 x3 x4).f1) then (some ((rd_T88 x3 x4).f2)) else (selvedgeref01_Class.l0 k x0 x3 (wrap64 (x4 + 1)))) else (selvedgeref01_Class.l0 k x0 x3 (wrap64 (x4 + 1)))) else (none)) else (some 1)
end
def selvedgeref01_Class.f (k : Nat) (a0 : Int) : Option (Int) := if a0 ≥ 65 then (if a0 ≤ 90 then (selvedgeref01_Class.j0 k a0 true) else (if a0 ≥ 97 then (selvedgeref01_Class.j0 k a0 (decide (a0 ≤ 122))) else (selvedgeref01_Class.j0 k a0 false))) else (if a0 ≥ 97 then (selvedgeref01_Class.j0 k a0 (decide (a0 ≤ 122))) else (selvedgeref01_Class.j0 k a0 false))
theorem selvedgeref01_Class.mono_l : ∀ k, (∀ y0 y1, LeO (selvedgeref01_Class.j0 k y0 y1) (selvedgeref01_Class.j0 (k + 1) y0 y1)) ∧ (∀ y0 y1 y2, LeO (selvedgeref01_Class.l0 k y0 y1 y2) (selvedgeref01_Class.l0 (k + 1) y0 y1 y2))
  | 0 => ⟨fun _ _ r h => by simp [selvedgeref01_Class.j0] at h, fun _ _ _ r h => by simp [selvedgeref01_Class.l0] at h⟩
  | k + 1 => by
    obtain ⟨ih0, ih1⟩ := selvedgeref01_Class.mono_l k
    refine ⟨?_, ?_⟩
    · intro y0 y1
      unfold selvedgeref01_Class.j0
      repeat' first
      | (with_reducible exact ih0 _ _)
      | (with_reducible exact ih1 _ _ _)
      | (with_reducible exact LeO.refl _)
      | (with_reducible exact LeO.none _)
      | (with_reducible refine LeO.ite ?_ ?_)
      | (with_reducible refine LeO.bind ?_ (fun _ => ?_))
      | exact ih0 _ _
      | exact ih1 _ _ _
      | exact LeO.none _
      | refine LeO.ite ?_ ?_
      | refine LeO.bind ?_ (fun _ => ?_)
    · intro y0 y1 y2
      unfold selvedgeref01_Class.l0
      repeat' first
      | (with_reducible exact ih0 _ _)
      | (with_reducible exact ih1 _ _ _)
      | (with_reducible exact LeO.refl _)
      | (with_reducible exact LeO.none _)
      | (with_reducible refine LeO.ite ?_ ?_)
      | (with_reducible refine LeO.bind ?_ (fun _ => ?_))
      | exact ih0 _ _
      | exact ih1 _ _ _
      | exact LeO.none _
      | refine LeO.ite ?_ ?_
      | refine LeO.bind ?_ (fun _ => ?_)
theorem selvedgeref01_Class.mono : ∀ a0 k, LeO (selvedgeref01_Class.f k a0) (selvedgeref01_Class.f (k + 1) a0) := by
  intro a0 k
  obtain ⟨ih0, ih1⟩ := selvedgeref01_Class.mono_l k
  unfold selvedgeref01_Class.f
  repeat' first
      | (with_reducible exact ih0 _ _)
      | (with_reducible exact ih1 _ _ _)
      | (with_reducible exact LeO.refl _)
      | (with_reducible exact LeO.none _)
      | (with_reducible refine LeO.ite ?_ ?_)
      | (with_reducible refine LeO.bind ?_ (fun _ => ?_))
      | exact ih0 _ _
      | exact ih1 _ _ _
      | exact LeO.none _
      | refine LeO.ite ?_ ?_
      | refine LeO.bind ?_ (fun _ => ?_)
set_option maxHeartbeats 8000000 in
set_option maxRecDepth 100000 in
theorem selvedgeref01_Class.calls (k : Nat) (a0 : Int) (r : Int) (w : World) (h : selvedgeref01_Class.f k a0 = some r) :
    Calls Tryd.prog 16 #[.int .i32 a0] w fun e w' => e = .returned (.int .u8 r) ∧ Below w.heap.size w w' := by
  have HB := Aside0.mk (Below.refl w.heap.size w)
  have H : (if a0 ≥ 65 then (if a0 ≤ 90 then (selvedgeref01_Class.j0 k a0 true) else (if a0 ≥ 97 then (selvedgeref01_Class.j0 k a0 (decide (a0 ≤ 122))) else (selvedgeref01_Class.j0 k a0 false))) else (if a0 ≥ 97 then (selvedgeref01_Class.j0 k a0 (decide (a0 ≤ 122))) else (selvedgeref01_Class.j0 k a0 false))) = some r := h
  clear h
  have HC2 := Aside0.mk H
  clear H
  go_enter Tryd.func16, Tryd.ntmps16
  go_upto_region 1 with (fail)
  go_cut [18] (fun v18 wc => ∃ (kq : Nat) (x18_1 : Bool), v18 = .bool x18_1 ∧ Aside0 (selvedgeref01_Class.j0 kq a0 x18_1 = some r) ∧ Aside0 (kq ≤ k) ∧ Aside0 (Below w.heap.size w wc))
  case first =>
    have H := HC2.out
    clear HC2
    by_cases c3 : a0 ≥ 65
    · rw [if_pos c3] at H
      have c3b0 : decide (65 ≤ a0) = true := decide_eq_true c3
      clear c3
      (first | rw [c3b0] | (simp only [i64_w, i32_w]; rw [c3b0]) | skip)
      by_cases c4 : a0 ≤ 90
      · rw [if_pos c4] at H
        have c4b0 : decide (a0 ≤ 90) = true := decide_eq_true c4
        clear c4
        have H' := Aside0.mk H
        clear H
        go_wp2
        go_meet
        case rel => exact ⟨_, (true), (by first | rfl | (simp; done) | (simp [*]; done)), H', ⟨by first | omega | exact Nat.le_refl _⟩, ⟨by repeat (first | (with_reducible first | exact HB.out | apply below_alloc | apply pw_below_drewN | apply below_drew1) | exact HB.out)⟩⟩
      · rw [if_neg c4] at H
        have c4b0 : decide (a0 ≤ 90) = false := decide_eq_false c4
        clear c4
        by_cases c5 : a0 ≥ 97
        · rw [if_pos c5] at H
          have c5b0 : decide (97 ≤ a0) = true := decide_eq_true c5
          clear c5
          have H' := Aside0.mk H
          clear H
          go_wp2
          go_meet
          case rel => exact ⟨_, (decide (a0 ≤ 122)), (by first | rfl | (simp; done) | (simp [*]; done)), H', ⟨by first | omega | exact Nat.le_refl _⟩, ⟨by repeat (first | (with_reducible first | exact HB.out | apply below_alloc | apply pw_below_drewN | apply below_drew1) | exact HB.out)⟩⟩
        · rw [if_neg c5] at H
          have c5b0 : decide (97 ≤ a0) = false := decide_eq_false c5
          clear c5
          have H' := Aside0.mk H
          clear H
          go_wp2
          go_meet
          case rel => exact ⟨_, (false), (by first | rfl | (simp; done) | (simp [*]; done)), H', ⟨by first | omega | exact Nat.le_refl _⟩, ⟨by repeat (first | (with_reducible first | exact HB.out | apply below_alloc | apply pw_below_drewN | apply below_drew1) | exact HB.out)⟩⟩
    · rw [if_neg c3] at H
      have c3b0 : decide (65 ≤ a0) = false := decide_eq_false c3
      clear c3
      (first | rw [c3b0] | (simp only [i64_w, i32_w]; rw [c3b0]) | skip)
      by_cases c6 : a0 ≥ 97
      · rw [if_pos c6] at H
        have c6b0 : decide (97 ≤ a0) = true := decide_eq_true c6
        clear c6
        have H' := Aside0.mk H
        clear H
        go_wp2
        go_meet
        case rel => exact ⟨_, (decide (a0 ≤ 122)), (by first | rfl | (simp; done) | (simp [*]; done)), H', ⟨by first | omega | exact Nat.le_refl _⟩, ⟨by repeat (first | (with_reducible first | exact HB.out | apply below_alloc | apply pw_below_drewN | apply below_drew1) | exact HB.out)⟩⟩
      · rw [if_neg c6] at H
        have c6b0 : decide (97 ≤ a0) = false := decide_eq_false c6
        clear c6
        have H' := Aside0.mk H
        clear H
        go_wp2
        go_meet
        case rel => exact ⟨_, (false), (by first | rfl | (simp; done) | (simp [*]; done)), H', ⟨by first | omega | exact Nat.le_refl _⟩, ⟨by repeat (first | (with_reducible first | exact HB.out | apply below_alloc | apply pw_below_drewN | apply below_drew1) | exact HB.out)⟩⟩
  case rest =>
    clear HC2
    try clear c1
    try clear p2
    try clear c3
    try clear c3b0
    try clear c4
    try clear c4b0
    try clear c5
    try clear c5b0
    try clear c6
    try clear c6b0
    obtain ⟨kq, x18_1, rfl, HA, HJ1, HB⟩ := hcut
    cases kq with
    | zero => exact absurd HA.out (by simp [selvedgeref01_Class.j0])
    | succ kj1 =>
      have H := HA.out
      clear HA
      simp only [selvedgeref01_Class.j0] at H
      by_cases c7 : x18_1 = true
      · subst c7
        have H1 : (some 1) = some r := by rw [if_pos rfl] at H; exact H
        clear H
        have H := H1
        clear H1
        obtain rfl := Option.some.inj H
        go_wp2
        go_ret
        exact ⟨by first | rfl | (simp [errW_none, errW_some] <;> rfl) | (simp [*, errW_none, errW_some] <;> rfl), by repeat (first | (with_reducible first | exact HB.out | apply below_alloc | apply pw_below_drewN | apply below_drew1) | exact HB.out)⟩
      · replace c7 := Bool.eq_false_iff.mpr c7
        subst c7
        have H1 : ((selvedgeref01_Ranges.f).bind fun t166 => (selvedgeref01_Class.l0 kj1 a0 t166 0)) = some r := by rw [if_neg (show ¬ (false = true) by decide)] at H; exact H
        clear H
        have H := H1
        clear H1
        replace H := Option.bind_eq_some_iff.mp H
        obtain ⟨t166, A80, H⟩ := H
        replace H : (selvedgeref01_Class.l0 kj1 a0 t166 0) = some r := H
        have A8 := Aside0.mk A80
        clear A80
        have H' := Aside0.mk H
        clear H
        go_wp2_with (first | ((with_reducible refine gate_callee (f := 32) rfl ?_); refine goesL_ (some 19) rfl rfl Tryd.func32 (by kernel_rfl) rfl #[] rfl (by (try simp only [List.map_toArray, List.map_cons, List.map_nil]); first | done | rfl | (simp only [List.length_drop, List.length_take]; rfl)) ?_; (with_reducible refine (selvedgeref01_Ranges.calls  t166 _ A8.out).mono ?_); rintro e w9 ⟨v167, rfl, ho0, hb⟩; refine ⟨_, rfl, ?_⟩; have n0_ := Aside0.mk (Kd.R_lower ho0 (below_size (by repeat (first | (with_reducible first | exact HB.out | apply below_alloc | apply pw_below_drewN | apply below_drew1) | exact HB.out)))); have n1_ := Aside0.mk (below_step (by repeat (first | (with_reducible first | exact HB.out | apply below_alloc | apply pw_below_drewN | apply below_drew1) | exact HB.out)) hb); clear HB; have HO168 := n0_; have HB := n1_; clear n0_ n1_; (try clear hb); (try clear hb2); (try clear hk); (try clear hi); (try clear ho0)))
        go_loopg [4] kj1 (fun kq v4 w' => ∃ (x4_2 : Int), v4 = .int .i64 x4_2 ∧ Aside0 (selvedgeref01_Class.l0 kq a0 t166 x4_2 = some r) ∧ Aside0 (kq ≤ kj1) ∧ Aside0 (Kd.R k88 88 w' w.heap.size (fun _ => True) v167 t166) ∧ Aside0 (Below w.heap.size w w'))
        case atStart => exact ⟨(0), (by first | rfl | (simp; done) | (simp [*]; done)), H', ⟨Nat.le_refl _⟩, ⟨by (with_reducible repeat (first | apply Kd.R_alloc | apply Kd.R_drewN | apply Kd.R_drew)); exact HO168.out⟩, ⟨by repeat (first | (with_reducible first | exact HB.out | apply below_alloc | apply pw_below_drewN | apply below_drew1) | exact HB.out)⟩⟩
        case round =>
          clear H'
          try clear c1
          try clear p2
          try clear c3
          try clear c3b0
          try clear c4
          try clear c4b0
          try clear c5
          try clear c5b0
          try clear c6
          try clear c6b0
          try clear c7
          try clear p2
          obtain ⟨x4_2, rfl, HA, HK2, HO_3, HB⟩ := hrel
          cases gk with
          | zero => exact absurd HA.out (by simp [selvedgeref01_Class.l0])
          | succ k2 =>
            have H := HA.out
            clear HA
            simp only [selvedgeref01_Class.l0] at H
            by_cases c10 : x4_2 < (t166.length : Int)
            · rw [if_pos c10] at H
              have c10b0 : decide (x4_2 < (t166.length : Int)) = true := decide_eq_true c10
              clear c10
              by_cases c11 : 0 ≤ x4_2
              · rw [if_pos c11] at H
                have c11b0 : decide (0 ≤ x4_2) = true := decide_eq_true c11
                clear c11
                by_cases c12 : a0 ≥ ((rd_T88 t166 x4_2).f0)
                · rw [if_pos c12] at H
                  have c12b0 : decide (((rd_T88 t166 x4_2).f0) ≤ a0) = true := decide_eq_true c12
                  clear c12
                  by_cases c13 : a0 ≤ ((rd_T88 t166 x4_2).f1)
                  · rw [if_pos c13] at H
                    have c13b0 : decide (a0 ≤ ((rd_T88 t166 x4_2).f1)) = true := decide_eq_true c13
                    clear c13
                    obtain rfl := Option.some.inj H
                    obtain ⟨Ao14, co14, eo14⟩ := Kd.R_slice HO_3.out
                    subst eo14
                    have p169 : 0 ≤ (x4_2 : Int) := of_decide_eq_true (by first | (with_reducible assumption) | assumption)
                    have q169 : x4_2 < (t166.length : Int) := of_decide_eq_true (by first | (with_reducible assumption) | assumption)
                    obtain ⟨ad169, e169, hx169_0, hx169_1, hx169_2⟩ := at_T88 (Kd.R_reads' HO_3.out).2.2 x4_2 p169 q169
                    cases e169
                    replace p169 := eq_true p169
                    replace q169 := eq_true q169
                    have p170 : 0 ≤ (x4_2 : Int) := of_decide_eq_true (by first | (with_reducible assumption) | assumption)
                    have q170 : x4_2 < (t166.length : Int) := of_decide_eq_true (by first | (with_reducible assumption) | assumption)
                    obtain ⟨ad170, e170, hx170_0, hx170_1, hx170_2⟩ := at_T88 (Kd.R_reads' HO_3.out).2.2 x4_2 p170 q170
                    obtain rfl : ad169 = ad170 := (by injection e170)
                    replace p170 := eq_true p170
                    replace q170 := eq_true q170
                    have p171 : 0 ≤ (x4_2 : Int) := of_decide_eq_true (by first | (with_reducible assumption) | assumption)
                    have q171 : x4_2 < (t166.length : Int) := of_decide_eq_true (by first | (with_reducible assumption) | assumption)
                    obtain ⟨ad171, e171, hx171_0, hx171_1, hx171_2⟩ := at_T88 (Kd.R_reads' HO_3.out).2.2 x4_2 p171 q171
                    obtain rfl : ad169 = ad171 := (by injection e171)
                    replace p171 := eq_true p171
                    replace q171 := eq_true q171
                    go_wp2
                    go_ret
                    exact ⟨by first | rfl | (simp [errW_none, errW_some] <;> rfl) | (simp [*, errW_none, errW_some] <;> rfl), by repeat (first | (with_reducible first | exact HB.out | apply below_alloc | apply pw_below_drewN | apply below_drew1) | exact HB.out)⟩
                  · rw [if_neg c13] at H
                    have c13b0 : decide (a0 ≤ ((rd_T88 t166 x4_2).f1)) = false := decide_eq_false c13
                    clear c13
                    have H' := Aside0.mk H
                    clear H
                    obtain ⟨Ao15, co15, eo15⟩ := Kd.R_slice HO_3.out
                    subst eo15
                    have p169 : 0 ≤ (x4_2 : Int) := of_decide_eq_true (by first | (with_reducible assumption) | assumption)
                    have q169 : x4_2 < (t166.length : Int) := of_decide_eq_true (by first | (with_reducible assumption) | assumption)
                    obtain ⟨ad169, e169, hx169_0, hx169_1, hx169_2⟩ := at_T88 (Kd.R_reads' HO_3.out).2.2 x4_2 p169 q169
                    cases e169
                    replace p169 := eq_true p169
                    replace q169 := eq_true q169
                    have p170 : 0 ≤ (x4_2 : Int) := of_decide_eq_true (by first | (with_reducible assumption) | assumption)
                    have q170 : x4_2 < (t166.length : Int) := of_decide_eq_true (by first | (with_reducible assumption) | assumption)
                    obtain ⟨ad170, e170, hx170_0, hx170_1, hx170_2⟩ := at_T88 (Kd.R_reads' HO_3.out).2.2 x4_2 p170 q170
                    obtain rfl : ad169 = ad170 := (by injection e170)
                    replace p170 := eq_true p170
                    replace q170 := eq_true q170
                    go_wp2
                    go_roundg k2
                    case measure => have := HJ1.out; have := HK2.out; omega
                    case rel => exact ⟨(wrap64 (x4_2 + 1)), (by first | rfl | (simp; done) | (simp [*]; done)), H', ⟨by have := HJ1.out; have := HK2.out; omega⟩, ⟨by (with_reducible repeat (first | apply Kd.R_alloc | apply Kd.R_drewN | apply Kd.R_drew)); exact HO_3.out⟩, ⟨by repeat (first | (with_reducible first | exact HB.out | apply below_alloc | apply pw_below_drewN | apply below_drew1) | exact HB.out)⟩⟩
                · rw [if_neg c12] at H
                  have c12b0 : decide (((rd_T88 t166 x4_2).f0) ≤ a0) = false := decide_eq_false c12
                  clear c12
                  have H' := Aside0.mk H
                  clear H
                  obtain ⟨Ao16, co16, eo16⟩ := Kd.R_slice HO_3.out
                  subst eo16
                  have p169 : 0 ≤ (x4_2 : Int) := of_decide_eq_true (by first | (with_reducible assumption) | assumption)
                  have q169 : x4_2 < (t166.length : Int) := of_decide_eq_true (by first | (with_reducible assumption) | assumption)
                  obtain ⟨ad169, e169, hx169_0, hx169_1, hx169_2⟩ := at_T88 (Kd.R_reads' HO_3.out).2.2 x4_2 p169 q169
                  cases e169
                  replace p169 := eq_true p169
                  replace q169 := eq_true q169
                  go_wp2
                  go_roundg k2
                  case measure => have := HJ1.out; have := HK2.out; omega
                  case rel => exact ⟨(wrap64 (x4_2 + 1)), (by first | rfl | (simp; done) | (simp [*]; done)), H', ⟨by have := HJ1.out; have := HK2.out; omega⟩, ⟨by (with_reducible repeat (first | apply Kd.R_alloc | apply Kd.R_drewN | apply Kd.R_drew)); exact HO_3.out⟩, ⟨by repeat (first | (with_reducible first | exact HB.out | apply below_alloc | apply pw_below_drewN | apply below_drew1) | exact HB.out)⟩⟩
              · rw [if_neg c11] at H
                exact absurd H (by simp)
            · rw [if_neg c10] at H
              have c10b0 : decide (x4_2 < (t166.length : Int)) = false := decide_eq_false c10
              clear c10
              obtain rfl := Option.some.inj H
              obtain ⟨Ao17, co17, eo17⟩ := Kd.R_slice HO_3.out
              subst eo17
              go_wp2
              go_ret
              exact ⟨by first | rfl | (simp [errW_none, errW_some] <;> rfl) | (simp [*, errW_none, errW_some] <;> rfl), by repeat (first | (with_reducible first | exact HB.out | apply below_alloc | apply pw_below_drewN | apply below_drew1) | exact HB.out)⟩

-- NOT PRINTED: function 47 (selvedgeref13_splitter_char)

-- NOT PRINTED: function 28 (selvedgeref13_splitter_item)

end Go.Proofs.YtlfpjlpaiaonkaaDoor.P

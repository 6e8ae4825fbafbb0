/- Arguments of struct types and slices of them, opened into what the kinds say (Kd.K, Kd.C). -/
import Derived.Test.YtlfpjlpaiaonkaaDoorP0
import Derived.ProofKit
import Derived.OpenShut
import Derived.LaidMore
import Derived.Deep.Slices
import Derived.Lib.SmallJoins
namespace Go.Proofs.YtlfpjlpaiaonkaaDoor.Opn
open Go.ChangeShapes Go.WideShapes Go.ChangeAt Go.RowKit Go.Deep Go.Proofs.YtlfpjlpaiaonkaaDoorW.PrintWords Go.Proofs.YtlfpjlpaiaonkaaDoorW.PrintLast Go.Proofs.YtlfpjlpaiaonkaaDoorW.PrintMore Go.Proofs.YtlfpjlpaiaonkaaDoorH Go.Proofs.YtlfpjlpaiaonkaaDoor.P
set_option linter.unusedVariables false
set_option linter.unusedSimpArgs false
section
variable {H : Type} {enc : TypeId × Value → H} {P : Program} {w : World} {base : Nat} {spare : Nat → Bool} {held : Bool}
/-- Whatever reads at type t is a value of kind d, and good. -/
def Opens (enc : TypeId × Value → H) (P : Program) (w : World) (base : Nat) (spare : Nat → Bool) (held : Bool) {α : Type} (d : Kd α) (t : TypeId) (good : α → Prop) : Prop :=
  ∀ (fuel : Nat) (cs : List Value) (x : DataW H × List MemPlace), DataW.trod enc P w base spare held fuel t cs = some x → ∃ p, d.K w p cs ∧ good p
theorem opens_int {t : TypeId} {k : IntKind} (ht : P.underlying t = some (.int k)) : Opens enc P w base spare held (Kd.int k) t (fun n => (Lit.int k n).wf = true) := fun fuel cs x h =>
  let ⟨n, h1, _, h3⟩ := DataW.trod_int ht h; ⟨n, h1, h3⟩
theorem opens_bool {t : TypeId} (ht : P.underlying t = some .bool) : Opens enc P w base spare held Kd.bool t (fun _ => True) := fun fuel cs x h =>
  let ⟨n, h1, _⟩ := DataW.trod_bool ht h; ⟨n, h1, trivial⟩
theorem opens_C {α : Type} {d : Kd α} {t e : TypeId} {good : α → Prop} (ht : P.underlying t = some (.slice e)) (hc : P.cellsOf e = d.sz) (he : Opens enc P w base spare held d e good) {fuel : Nat} {A : Option Addr} {len cap : Nat} {x : DataW H × List MemPlace}
    (h : DataW.trod enc P w base spare held fuel t [.slice A len cap] = some x) : ∃ xs : List α, xs.length = len ∧ len ≤ cap ∧ d.C w A len xs ∧ ∀ p, p ∈ xs → good p := by
  rcases open_slice ht h with ⟨hcs, _⟩ | ⟨a, l, c, m, n, D, Pl, hcs, hb, hl, hm, hmm, _, hx⟩
  · injection hcs with h1 _
    injection h1 with h1 h2 h3
    subst h1 h2 h3
    exact ⟨[], rfl, Nat.le_refl _, ⟨rfl, by decide, fun h => absurd h (by omega)⟩, fun p hp => by cases hp⟩
  · injection hcs with h1 _
    injection h1 with h1 h2 h3
    subst h1 h2 h3
    have hlm : len ≤ m := by rw [hmm]; split <;> omega
    have hone : ∀ i, i < len → ∃ p, (∃ c, c.length = d.sz ∧ d.K w p c ∧ ∀ j u, c[j]? = some u → w.cell? (a.add (i * d.sz + j)) = some u) ∧ good p := fun i hi => by
      obtain ⟨cs', h1, h2⟩ := hx i (by omega)
      obtain ⟨p, hk, hg⟩ := he _ _ _ h2
      obtain ⟨_, hlen, hcell⟩ := World.cells?_some h1
      rw [hc] at hlen hcell
      refine ⟨p, ⟨cs', hlen, hk, fun j u hu => ?_⟩, hg⟩
      have := hcell j (by rw [← hlen]; exact (List.getElem?_eq_some_iff.1 hu).1)
      rw [Deep.add_add, hu] at this
      exact this
    classical
    let f : (i : Nat) → i < len → α := fun i hi => Classical.choose (hone i hi)
    have hf : ∀ i hi, (∃ c, c.length = d.sz ∧ d.K w (f i hi) c ∧ ∀ j u, c[j]? = some u → w.cell? (a.add (i * d.sz + j)) = some u) ∧ good (f i hi) := fun i hi => Classical.choose_spec (hone i hi)
    refine ⟨List.ofFn (n := len) (fun i => f i.1 i.2), List.length_ofFn, hl, ⟨List.length_ofFn, Nat.le_trans hl (Nat.le_trans hm (by decide)), fun _ => ⟨a, rfl, fun j p hj => ?_⟩⟩, fun p hp => ?_⟩
    · obtain ⟨hjl, hje⟩ := List.getElem?_eq_some_iff.1 hj
      rw [List.getElem_ofFn] at hje
      rw [← hje]
      exact (hf j (by simpa using hjl)).1
    · obtain ⟨i, hi⟩ := List.mem_ofFn.1 hp
      rw [← hi]
      exact (hf i.1 i.2).2
theorem opens_slice {α : Type} {d : Kd α} {t e : TypeId} {good : α → Prop} (ht : P.underlying t = some (.slice e)) (hc : P.cellsOf e = d.sz) (he : Opens enc P w base spare held d e good) : Opens enc P w base spare held (Kd.slice e d) t (fun xs => ∀ p, p ∈ xs → good p) := fun fuel cs x h => by
  obtain ⟨A, l, c, rfl⟩ := Go.Joins.slice_form ht h
  obtain ⟨xs, h1, h2, h3, h4⟩ := opens_C ht hc he h
  subst h1
  exact ⟨xs, ⟨A, c, rfl, h2, h3⟩, h4⟩
theorem pair_open {α β : Type} {a : Kd α} {b : Kd β} {x : α} {y : β} {cs : List Value} {o s : Nat} (h0 : a.K w x ((cs.drop o).take s)) (h1 : b.K w y (cs.drop (o + s))) : (Kd.pair a b).K w (x, y) (cs.drop o) :=
  ⟨_, _, by rw [← List.drop_drop, List.take_append_drop], h0, h1⟩
theorem last_open {α : Type} {a : Kd α} {x : α} {cs : List Value} {o s n : Nat} (hl : cs.length = n) (hn : n = o + s) (h0 : a.K w x ((cs.drop o).take s)) : a.K w x (cs.drop o) := by
  rwa [List.take_of_length_le (by rw [List.length_drop]; omega)] at h0
theorem fld {α : Type} {d : Kd α} {good : α → Prop} {fs : Array Field} {cs : List Value} {n : Nat} {xs : List (DataW H × List MemPlace)} (hn : xs.length = fs.size)
    (hf : ∀ (i : Nat) (f : Field), fs[i]? = some f → DataW.trod enc P w base spare held n f.type ((cs.drop f.offset).take (P.cellsOf f.type)) = xs[i]?) (i : Nat) {f : Field} (hi : fs[i]? = some f) (s o : Nat) (t : TypeId) (ht : f.type = t) (ho : f.offset = o) (hs : P.cellsOf t = s)
    (hd : Opens enc P w base spare held d t good) : ∃ p, d.K w p ((cs.drop o).take s) ∧ good p := by
  have h := hf i f hi
  obtain ⟨hlt, _⟩ := Array.getElem?_eq_some_iff.1 hi
  rw [List.getElem?_eq_getElem (by omega), ht, ho, hs] at h
  exact hd _ _ _ h
theorem drop_zero_ {cs : List Value} {Q : List Value → Prop} (h : Q (cs.drop 0)) : Q cs := by rwa [List.drop_zero] at h
end
section
variable {H : Type} {enc : TypeId × Value → H} {w : World} {base : Nat} {spare : Nat → Bool} {held : Bool}
def goodSty (s : S52) : Prop := (0 ≤ s.f0 ∧ s.f0 ≤ 255) ∧ (0 ≤ s.f1 ∧ s.f1 ≤ 255) ∧ (0 ≤ s.f2 ∧ s.f2 ≤ 255) ∧ (0 ≤ s.f3 ∧ s.f3 ≤ 255) ∧ (Lit.int .i64 s.f4).wf = true ∧ (Lit.int .i64 s.f5).wf = true
set_option maxRecDepth 100000 in
theorem opens_sty : Opens enc Tryd.prog w base spare held k52 52 goodSty := fun fuel cs x h => by
  obtain ⟨xs, n, _, _, hl, hn, hf⟩ := DataW.trod_struct Tryd.underlying52 h
  rw [show Tryd.prog.cellsOf 52 = 6 by kernel_rfl] at hl
  obtain ⟨p0, k0, g0⟩ := fld hn hf 0 rfl 1 0 5 rfl rfl (by kernel_rfl) (opens_int Tryd.underlying5)
  obtain ⟨p1, k1, g1⟩ := fld hn hf 1 rfl 1 1 5 rfl rfl (by kernel_rfl) (opens_int Tryd.underlying5)
  obtain ⟨p2, k2, g2⟩ := fld hn hf 2 rfl 1 2 5 rfl rfl (by kernel_rfl) (opens_int Tryd.underlying5)
  obtain ⟨p3, k3, g3⟩ := fld hn hf 3 rfl 1 3 5 rfl rfl (by kernel_rfl) (opens_int Tryd.underlying5)
  obtain ⟨p4, k4, g4⟩ := fld hn hf 4 rfl 1 4 3 rfl rfl (by kernel_rfl) (opens_int Tryd.underlying3)
  obtain ⟨p5, k5, g5⟩ := fld hn hf 5 rfl 1 5 3 rfl rfl (by kernel_rfl) (opens_int Tryd.underlying3)
  exact ⟨⟨p0, p1, p2, p3, p4, p5⟩, drop_zero_ (Q := fun cs => k52.K w ⟨p0, p1, p2, p3, p4, p5⟩ cs) (pair_open k0 (pair_open k1 (pair_open k2 (pair_open k3 (pair_open k4 (last_open hl rfl k5)))))), bounds_u8 g0, bounds_u8 g1, bounds_u8 g2, bounds_u8 g3, g4, g5⟩
def goodItm (s : S47) : Prop := (0 ≤ s.f0 ∧ s.f0 ≤ 255) ∧ (Lit.int .i64 s.f1).wf = true ∧ (Lit.int .i32 s.f3).wf = true ∧ (Lit.int .i64 s.f4).wf = true
set_option maxRecDepth 100000 in
theorem opens_itm : Opens enc Tryd.prog w base spare held k47 47 goodItm := fun fuel cs x h => by
  obtain ⟨xs, n, _, _, hl, hn, hf⟩ := DataW.trod_struct Tryd.underlying47 h
  rw [show Tryd.prog.cellsOf 47 = 5 by kernel_rfl] at hl
  obtain ⟨p0, k0, g0⟩ := fld hn hf 0 rfl 1 0 5 rfl rfl (by kernel_rfl) (opens_int Tryd.underlying5)
  obtain ⟨p1, k1, g1⟩ := fld hn hf 1 rfl 1 1 3 rfl rfl (by kernel_rfl) (opens_int Tryd.underlying3)
  obtain ⟨p2, k2, g2⟩ := fld hn hf 2 rfl 1 2 4 rfl rfl (by kernel_rfl) (opens_bool Tryd.underlying4)
  obtain ⟨p3, k3, g3⟩ := fld hn hf 3 rfl 1 3 21 rfl rfl (by kernel_rfl) (opens_int Tryd.underlying21)
  obtain ⟨p4, k4, g4⟩ := fld hn hf 4 rfl 1 4 3 rfl rfl (by kernel_rfl) (opens_int Tryd.underlying3)
  exact ⟨⟨p0, p1, p2, p3, p4⟩, drop_zero_ (Q := fun cs => k47.K w ⟨p0, p1, p2, p3, p4⟩ cs) (pair_open k0 (pair_open k1 (pair_open k2 (pair_open k3 (last_open hl rfl k4))))), bounds_u8 g0, g1, g3, g4⟩
/-! ### Arguments -/
set_option maxRecDepth 100000 in
theorem arg_sty {r : Reach} {b0 : Nat} {v : Value} {d : DataW H} {p : List MemPlace} (hv : Value.okWide Tryd.prog w r b0 52 v) (h : DataW.Trod enc Tryd.prog w base spare held 52 v d p) :
    ∃ s : S52, v = .agg #[.int .u8 s.f0, .int .u8 s.f1, .int .u8 s.f2, .int .u8 s.f3, .int .i64 s.f4, .int .i64 s.f5] ∧ goodSty s := by
  obtain ⟨cs, rfl, hsz⟩ := okWide_struct Tryd.underlying52 hv
  obtain ⟨fuel, hf⟩ := h
  obtain ⟨s, hk, hg⟩ := opens_sty _ _ _ hf
  refine ⟨s, ?_, hg⟩
  have := k52_open hk
  simp only [Value.cells] at this
  exact congrArg Value.agg (Array.toList_inj.1 this)
theorem arg_slice {α : Type} {k : Kd α} {t e : TypeId} {good : α → Prop} {P : Program} (ht : P.underlying t = some (.slice e)) (hc : P.cellsOf e = k.sz) (he : Opens enc P w base spare held k e good) {A : Option Addr} {len cap : Nat} {d : DataW H} {p : List MemPlace}
    (h : DataW.Trod enc P w base spare held t (.slice A len cap) d p) : ∃ xs : List α, xs.length = len ∧ len ≤ cap ∧ k.C w A len xs ∧ ∀ p, p ∈ xs → good p := by
  obtain ⟨fuel, hf⟩ := h
  exact opens_C ht hc he (by simpa [Value.cells] using hf)
set_option maxRecDepth 100000 in
theorem arg_flow {r : Reach} {b0 : Nat} {v : Value} {d : DataW H} {p : List MemPlace} (hv : Value.okWide Tryd.prog w r b0 24 v) (h : DataW.Trod enc Tryd.prog w base spare held 24 v d p) :
    ∃ (b : Int) (A : Option Addr) (xs : List S47) (c : Nat), v = .agg #[.int .i64 b, .slice A xs.length c] ∧ xs.length ≤ c ∧ Kd.C k47 w A xs.length xs ∧ (Lit.int .i64 b).wf = true ∧ ∀ p, p ∈ xs → goodItm p := by
  obtain ⟨cs, rfl, hsz⟩ := okWide_struct Tryd.underlying24 hv
  obtain ⟨fuel, hf⟩ := h
  simp only [Value.cells] at hf
  obtain ⟨xs, n, _, _, hl, hn, hff⟩ := DataW.trod_struct Tryd.underlying24 hf
  rw [show Tryd.prog.cellsOf 24 = 2 by kernel_rfl] at hl
  obtain ⟨p0, k0, g0⟩ := fld hn hff 0 rfl 1 0 3 rfl rfl (by kernel_rfl) (opens_int Tryd.underlying3)
  obtain ⟨p1, k1, g1⟩ := fld hn hff 1 rfl 1 1 22 rfl rfl (by kernel_rfl) (opens_slice Tryd.underlying22 (by kernel_rfl) opens_itm)
  have hK : (Kd.pair (Kd.int .i64) (Kd.slice 47 k47)).K w (p0, p1) cs.toList := drop_zero_ (Q := fun cs => (Kd.pair (Kd.int .i64) (Kd.slice 47 k47)).K w (p0, p1) cs) (pair_open k0 (last_open hl rfl k1))
  obtain ⟨_, _, hcs, rfl, A, c, rfl, hle, hC⟩ := hK
  exact ⟨p0, A, p1, c, congrArg Value.agg (Array.toList_inj.1 hcs), hle, hC, g0, g1⟩
end
end Go.Proofs.YtlfpjlpaiaonkaaDoor.Opn

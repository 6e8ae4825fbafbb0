/- What the row's listed package-level variables give the walks: each variable's cells. -/
import Derived.Test.YtlfpjlpaiaonkaaDoorRows
import Derived.Test.YtlfpjlpaiaonkaaDoorH
import Derived.ProofKit
import Derived.LaidMore
import Derived.OpenShut
import Derived.MakeChecks
import Derived.Stop.Joined
namespace Go.Proofs.YtlfpjlpaiaonkaaDoor.Ld
open Go.ChangeShapes Go.WideShapes Go.ChangeAt Go.RowKit Go.Proofs.YtlfpjlpaiaonkaaDoorH
set_option linter.unusedVariables false
set_option linter.unusedSimpArgs false
theorem flat_ext {β : Type} {size : Nat} (hs : 0 < size) (g : β → List Value) (hg : ∀ x, (g x).length = size) (T : List β) (cs : List Value) (hl : cs.length = T.length * size)
    (h : ∀ i (hi : i < T.length), (cs.drop (i * size)).take size = g T[i]) : cs = T.flatMap g := by
  apply List.ext_getElem?
  intro j
  by_cases hj : j < T.length * size
  · have hq : j / size < T.length := by rw [Nat.div_lt_iff_lt_mul hs]; exact hj
    have h1 := h (j / size) hq
    have h2 := flat_seg g hg T (j / size) hq
    have e : j = j / size * size + j % size := by rw [Nat.mul_comm]; exact (Nat.div_add_mod j size).symm
    have h3 : ∀ l : List Value, l[j]? = ((l.drop (j / size * size)).take size)[j % size]? := fun l => by
      rw [List.getElem?_take, if_pos (Nat.mod_lt _ hs), List.getElem?_drop, ← e]
    rw [h3 cs, h3 (T.flatMap g), h1, h2]
  · rw [List.getElem?_eq_none (by omega), List.getElem?_eq_none (by rw [flat_len g hg]; omega)]
def tab2D {H : Type} (T : List (Int × Int)) : DataW H := .agg (T.map fun x => .agg [.lit (.int .i32 x.1), .lit (.int .i32 x.2)])
theorem tab2_cells {H : Type} {enc : TypeId × Value → H} {P : Program} {w : World} {base : Nat} {spare : Nat → Bool} {held : Bool} {fuel : Nat} {tA tS ti n : Nat} {f0 f1 : Field} {cs : List Value} {p : List MemPlace} {T : List (Int × Int)}
    (hA : P.underlying tA = some (.array n tS)) (hS : P.underlying tS = some (.struct #[f0, f1])) (h0 : f0.type = ti ∧ f0.offset = 0) (h1 : f1.type = ti ∧ f1.offset = 1) (hi : P.underlying ti = some (.int .i32))
    (ci : P.cellsOf ti = 1) (cS : P.cellsOf tS = 2) (cA : P.cellsOf tA = T.length * 2) (hn : T.length = n) (h : DataW.trod enc P w base spare held fuel tA cs = some (tab2D T, p)) : cs = cells2 T := by
  obtain ⟨xs, m, rfl, hx, hlen, hxl, hel⟩ := DataW.trod_array hA h
  simp only [Prod.mk.injEq] at hx
  have hx1 : T.map (fun x => (DataW.agg [.lit (.int .i32 x.1), .lit (.int .i32 x.2)] : DataW H)) = xs.map (·.1) := by
    have := hx.1
    unfold tab2D at this
    injection this
  refine flat_ext (size := 2) (by decide) cs2 (fun _ => rfl) T cs (by rw [hlen, cA]) (fun i hi' => ?_)
  have h2 := hel i (by omega)
  rw [cS, List.getElem?_eq_getElem (by omega)] at h2
  obtain ⟨y0, y1, k, hy, hl2, t0, t1⟩ := trod_struct2 hS h2
  rw [h0.1, h0.2, ci] at t0
  rw [h1.1, h1.2, ci] at t1
  obtain ⟨a, e0, rfl, _⟩ := DataW.trod_int hi t0
  obtain ⟨b, e1, rfl, _⟩ := DataW.trod_int hi t1
  have h3 : (T.map (fun x => (DataW.agg [.lit (.int .i32 x.1), .lit (.int .i32 x.2)] : DataW H)))[i]? = (xs.map (·.1))[i]? := by rw [hx1]
  rw [List.getElem?_map, List.getElem?_map, List.getElem?_eq_getElem hi', List.getElem?_eq_getElem (by omega)] at h3
  simp only [Option.map_some, Option.some.injEq] at h3
  rw [hy] at h3
  simp only [DataW.agg.injEq, List.cons.injEq, DataW.lit.injEq, Lit.int.injEq, true_and, and_true] at h3
  rw [cS] at hl2
  generalize (cs.drop (i * 2)).take 2 = seg at *
  match seg, hl2 with
  | [c0, c1], _ =>
    simp at e0 e1
    subst e0 e1
    unfold cs2
    rw [h3.1, h3.2]
theorem laidAt_of {P : Program} {w : World} {n : String} {g : Nat} {cs : Array Value} {l : List Value} (hg : P.globalNamed n = some g) (hv : w.var? P n = some cs) (h : cs.toList = l) : LaidAt w g l := by
  intro i u hu
  rw [World.var?_cell hg hv i, ← Array.getElem?_toList, h]
  exact hu
def cs3s (x : List UInt8 × List UInt8 × List UInt8) : List Value := [.string ⟨x.1.toArray⟩, .string ⟨x.2.1.toArray⟩, .string ⟨x.2.2.toArray⟩]
def row3D {H : Type} (T : List (List UInt8 × List UInt8 × List UInt8)) : DataW H := .agg (T.map fun x => .agg [.agg [.lit (.string x.1), .lit (.string x.2.1)], .lit (.string x.2.2)])
def tabRows : List (List UInt8 × List UInt8 × List UInt8) := [([], [], []), ([226, 128, 170], [226, 128, 171], [226, 128, 172]), ([226, 129, 166], [226, 129, 167], [226, 129, 169]), ([226, 128, 173], [226, 128, 174], [226, 128, 172]), ([226, 129, 168, 226, 128, 173], [226, 129, 168, 226, 128, 174], [226, 128, 172, 226, 129, 169]), ([226, 129, 168], [226, 129, 168], [226, 129, 169])]
theorem two_strs {H : Type} {enc : TypeId × Value → H} {P : Program} {w : World} {base : Nat} {spare : Nat → Bool} {held : Bool} {fuel : Nat} {t2 ti : Nat} {cs : List Value} {x y : List UInt8} {p : List MemPlace}
    (h2 : P.underlying t2 = some (.array 2 ti)) (hi : P.underlying ti = some .string) (ci : P.cellsOf ti = 1) (c2 : P.cellsOf t2 = 2) (h : DataW.trod enc P w base spare held fuel t2 cs = some (.agg [.lit (.string x), .lit (.string y)], p)) : cs = [.string ⟨x.toArray⟩, .string ⟨y.toArray⟩] := by
  obtain ⟨xs, m, rfl, hx, hlen, hxl, hel⟩ := DataW.trod_array h2 h
  simp only [Prod.mk.injEq] at hx
  have hx1 : [(DataW.lit (.string x) : DataW H), .lit (.string y)] = xs.map (·.1) := by have := hx.1; injection this
  rw [c2] at hlen
  obtain ⟨a, b, rfl⟩ : ∃ a b, xs = [a, b] := by match xs, hxl with | [a, b], _ => exact ⟨a, b, rfl⟩
  obtain ⟨u, v, rfl⟩ : ∃ u v, cs = [u, v] := by match cs, hlen with | [u, v], _ => exact ⟨u, v, rfl⟩
  have e0 := hel 0 (by decide)
  have e1 := hel 1 (by decide)
  rw [ci] at e0 e1
  obtain ⟨s0, f0, g0, _⟩ := DataW.trod_string hi (by simpa using e0 : DataW.trod enc P w base spare held m ti [u] = some a)
  obtain ⟨s1, f1, g1, _⟩ := DataW.trod_string hi (by simpa using e1 : DataW.trod enc P w base spare held m ti [v] = some b)
  subst g0 g1
  simp only [List.map_cons, List.map_nil, List.cons.injEq, DataW.lit.injEq, Lit.string.injEq, and_true] at hx1
  rw [hx1.1, hx1.2]
  simp only [List.cons.injEq, and_true] at f0 f1
  rw [f0, f1]
theorem rows3_cells {H : Type} {enc : TypeId × Value → H} {P : Program} {w : World} {base : Nat} {spare : Nat → Bool} {held : Bool} {fuel : Nat} {tA tS t2 ti n : Nat} {f0 f1 : Field} {cs : List Value} {p : List MemPlace} {T : List (List UInt8 × List UInt8 × List UInt8)}
    (hA : P.underlying tA = some (.array n tS)) (hS : P.underlying tS = some (.struct #[f0, f1])) (h0 : f0.type = t2 ∧ f0.offset = 0) (h1 : f1.type = ti ∧ f1.offset = 2) (h2 : P.underlying t2 = some (.array 2 ti)) (hi : P.underlying ti = some .string)
    (ci : P.cellsOf ti = 1) (c2 : P.cellsOf t2 = 2) (cS : P.cellsOf tS = 3) (cA : P.cellsOf tA = T.length * 3) (hn : T.length = n) (h : DataW.trod enc P w base spare held fuel tA cs = some (row3D T, p)) : cs = T.flatMap cs3s := by
  obtain ⟨xs, m, rfl, hx, hlen, hxl, hel⟩ := DataW.trod_array hA h
  simp only [Prod.mk.injEq] at hx
  have hx1 : T.map (fun x => (DataW.agg [.agg [.lit (.string x.1), .lit (.string x.2.1)], .lit (.string x.2.2)] : DataW H)) = xs.map (·.1) := by have := hx.1; unfold row3D at this; injection this
  refine flat_ext (size := 3) (by decide) cs3s (fun _ => rfl) T cs (by rw [hlen, cA]) (fun i hi' => ?_)
  have h3 := hel i (by omega)
  rw [cS, List.getElem?_eq_getElem (by omega)] at h3
  obtain ⟨y0, y1, k, hy, hl2, t0, t1⟩ := trod_struct2 hS h3
  rw [h0.1, h0.2, c2] at t0
  rw [h1.1, h1.2, ci] at t1
  obtain ⟨b, e1, rfl, _⟩ := DataW.trod_string hi t1
  have h4 : (T.map (fun x => (DataW.agg [.agg [.lit (.string x.1), .lit (.string x.2.1)], .lit (.string x.2.2)] : DataW H)))[i]? = (xs.map (·.1))[i]? := by rw [hx1]
  rw [List.getElem?_map, List.getElem?_map, List.getElem?_eq_getElem hi', List.getElem?_eq_getElem (by omega)] at h4
  simp only [Option.map_some, Option.some.injEq] at h4
  rw [hy] at h4
  simp only [DataW.agg.injEq, List.cons.injEq, DataW.lit.injEq, Lit.string.injEq, and_true] at h4
  have h5 := two_strs (x := T[i].1) (y := T[i].2.1) (p := y0.2) h2 hi ci c2 (by rw [t0]; rw [h4.1])
  rw [cS] at hl2
  generalize (cs.drop (i * 3)).take 3 = seg at *
  match seg, hl2 with
  | [c0, c1, c2'], _ =>
    simp at e1 h5
    obtain ⟨rfl, rfl⟩ := h5
    subst e1
    unfold cs3s
    rw [h4.2]
theorem rows_of {w : World} {g t : Nat} {cs : Array Value} {f : Nat} {p : List MemPlace} (hg : Tryd.prog.globalNamed "selvedge/para.rows" = some g) (ht : (Tryd.prog.globals[g]?).map (·.type) = some t) (hv : w.var? Tryd.prog "selvedge/para.rows" = some cs) (hd : DataW.trod (fun _ => ()) Tryd.prog w 0 (fun _ => true) false f t cs.toList = some (Rows.laid_selvedge_para_rows, p)) : LaidAt w 0 paraRows := by
  obtain rfl := Option.some.inj ((show Tryd.prog.globalNamed "selvedge/para.rows" = some 0 by kernel_rfl).symm.trans hg)
  obtain rfl := Option.some.inj ((show (Tryd.prog.globals[0]?).map (·.type) = some 83 by kernel_rfl).symm.trans ht)
  exact laidAt_of hg hv ((rows3_cells (T := tabRows) Tryd.underlying83 Tryd.underlying82 ⟨rfl, rfl⟩ ⟨rfl, rfl⟩ Tryd.underlying80 Tryd.underlying9 (by kernel_rfl) (by kernel_rfl) (by kernel_rfl) (by kernel_rfl) rfl (hd.trans rfl)).trans rfl)
theorem laid_rows {w : World} (h : laidMetH Tryd.prog [("selvedge/para.rows", Rows.laid_selvedge_para_rows)] w) : LaidW w := by
  rw [MakeChecks.laidMetH_plain _ _ _ (by kernel_rfl)] at h
  obtain ⟨ps, ⟨g0, t0, cs0, f0, p0, q0, hg0, ht0, hv0, hd0, _, _⟩, _, _⟩ := h
  exact ⟨rows_of hg0 ht0 hv0 hd0, trivial⟩
end Go.Proofs.YtlfpjlpaiaonkaaDoor.Ld

import Derived.Test.YtgfkbijmchoolaaDoorRows
import Derived.Test.YtgfkbijmchoolaaDoorH
import Derived.ProofKit
import Derived.LaidMore
import Derived.OpenShut
import Derived.MakeChecks
import Derived.Stop.Joined
namespace Go.Proofs.YtgfkbijmchoolaaDoor.Ld
open Go.ChangeShapes Go.WideShapes Go.ChangeAt Go.RowKit Go.Proofs.YtgfkbijmchoolaaDoorH
set_option linter.unusedVariables false
set_option linter.unusedSimpArgs false
theorem flat_ext {β : Type} {size : Nat} (hs : 0 < size) (g : β → List Value) (hg : ∀ x, (g x).length = size) (T : List β) (cs : List Value) (hl : cs.length = T.length * size)
    (h : ∀ i (hi : i < T.length), (cs.drop (i * size)).take size = g T[i]) : cs = T.flatMap g := by
  apply List.ext_getElem?
  intro j
  by_cases hj : j < T.length * size
  · have hq : j / size < T.length := by rw [Nat.div_lt_iff_lt_mul hs]; exact hj
    have h1 := h (j / size) hq
    have h2 := flat_seg g hg T (j / size) hq
    have e : j = j / size * size + j % size := by rw [Nat.mul_comm]; exact (Nat.div_add_mod j size).symm
    have h3 : ∀ l : List Value, l[j]? = ((l.drop (j / size * size)).take size)[j % size]? := fun l => by
      rw [List.getElem?_take, if_pos (Nat.mod_lt _ hs), List.getElem?_drop, ← e]
    rw [h3 cs, h3 (T.flatMap g), h1, h2]
  · rw [List.getElem?_eq_none (by omega), List.getElem?_eq_none (by rw [flat_len g hg]; omega)]
def tab2D {H : Type} (T : List (Int × Int)) : DataW H := .agg (T.map fun x => .agg [.lit (.int .i32 x.1), .lit (.int .i32 x.2)])
theorem tab2_cells {H : Type} {enc : TypeId × Value → H} {P : Program} {w : World} {base : Nat} {spare : Nat → Bool} {held : Bool} {fuel : Nat} {tA tS ti n : Nat} {f0 f1 : Field} {cs : List Value} {p : List MemPlace} {T : List (Int × Int)}
    (hA : P.underlying tA = some (.array n tS)) (hS : P.underlying tS = some (.struct #[f0, f1])) (h0 : f0.type = ti ∧ f0.offset = 0) (h1 : f1.type = ti ∧ f1.offset = 1) (hi : P.underlying ti = some (.int .i32))
    (ci : P.cellsOf ti = 1) (cS : P.cellsOf tS = 2) (cA : P.cellsOf tA = T.length * 2) (hn : T.length = n) (h : DataW.trod enc P w base spare held fuel tA cs = some (tab2D T, p)) : cs = cells2 T := by
  obtain ⟨xs, m, rfl, hx, hlen, hxl, hel⟩ := DataW.trod_array hA h
  simp only [Prod.mk.injEq] at hx
  have hx1 : T.map (fun x => (DataW.agg [.lit (.int .i32 x.1), .lit (.int .i32 x.2)] : DataW H)) = xs.map (·.1) := by
    have := hx.1
    unfold tab2D at this
    injection this
  refine flat_ext (size := 2) (by decide) cs2 (fun _ => rfl) T cs (by rw [hlen, cA]) (fun i hi' => ?_)
  have h2 := hel i (by omega)
  rw [cS, List.getElem?_eq_getElem (by omega)] at h2
  obtain ⟨y0, y1, k, hy, hl2, t0, t1⟩ := trod_struct2 hS h2
  rw [h0.1, h0.2, ci] at t0
  rw [h1.1, h1.2, ci] at t1
  obtain ⟨a, e0, rfl, _⟩ := DataW.trod_int hi t0
  obtain ⟨b, e1, rfl, _⟩ := DataW.trod_int hi t1
  have h3 : (T.map (fun x => (DataW.agg [.lit (.int .i32 x.1), .lit (.int .i32 x.2)] : DataW H)))[i]? = (xs.map (·.1))[i]? := by rw [hx1]
  rw [List.getElem?_map, List.getElem?_map, List.getElem?_eq_getElem hi', List.getElem?_eq_getElem (by omega)] at h3
  simp only [Option.map_some, Option.some.injEq] at h3
  rw [hy] at h3
  simp only [DataW.agg.injEq, List.cons.injEq, DataW.lit.injEq, Lit.int.injEq, true_and, and_true] at h3
  rw [cS] at hl2
  generalize (cs.drop (i * 2)).take 2 = seg at *
  match seg, hl2 with
  | [c0, c1], _ =>
    simp at e0 e1
    subst e0 e1
    unfold cs2
    rw [h3.1, h3.2]
theorem laidAt_of {P : Program} {w : World} {n : String} {g : Nat} {cs : Array Value} {l : List Value} (hg : P.globalNamed n = some g) (hv : w.var? P n = some cs) (h : cs.toList = l) : LaidAt w g l := by
  intro i u hu
  rw [World.var?_cell hg hv i, ← Array.getElem?_toList, h]
  exact hu
theorem brackets_of {w : World} {g t : Nat} {cs : Array Value} {f : Nat} {p : List MemPlace} (hg : Tryd.prog.globalNamed "selvedge/props.brackets" = some g) (ht : (Tryd.prog.globals[g]?).map (·.type) = some t) (hv : w.var? Tryd.prog "selvedge/props.brackets" = some cs) (hd : DataW.trod (fun _ => ()) Tryd.prog w 0 (fun _ => true) false f t cs.toList = some (Rows.laid_selvedge_props_brackets, p)) : LaidAt w 0 (cells2 tabB) := by
  obtain rfl := Option.some.inj ((show Tryd.prog.globalNamed "selvedge/props.brackets" = some 0 by kernel_rfl).symm.trans hg)
  obtain rfl := Option.some.inj ((show (Tryd.prog.globals[0]?).map (·.type) = some 65 by kernel_rfl).symm.trans ht)
  exact laidAt_of hg hv (tab2_cells (T := tabB) Tryd.underlying65 Tryd.underlying64 ⟨rfl, rfl⟩ ⟨rfl, rfl⟩ Tryd.underlying21 (by kernel_rfl) (by kernel_rfl) (by kernel_rfl) tabB_len (hd.trans (congrArg (fun d => some (d, p)) (by kernel_rfl))))
theorem mirrors_of {w : World} {g t : Nat} {cs : Array Value} {f : Nat} {p : List MemPlace} (hg : Tryd.prog.globalNamed "selvedge/props.mirrors" = some g) (ht : (Tryd.prog.globals[g]?).map (·.type) = some t) (hv : w.var? Tryd.prog "selvedge/props.mirrors" = some cs) (hd : DataW.trod (fun _ => ()) Tryd.prog w 0 (fun _ => true) false f t cs.toList = some (Rows.laid_selvedge_props_mirrors, p)) : LaidAt w 1 (cells2 tabM) := by
  obtain rfl := Option.some.inj ((show Tryd.prog.globalNamed "selvedge/props.mirrors" = some 1 by kernel_rfl).symm.trans hg)
  obtain rfl := Option.some.inj ((show (Tryd.prog.globals[1]?).map (·.type) = some 66 by kernel_rfl).symm.trans ht)
  exact laidAt_of hg hv (tab2_cells (T := tabM) Tryd.underlying66 Tryd.underlying64 ⟨rfl, rfl⟩ ⟨rfl, rfl⟩ Tryd.underlying21 (by kernel_rfl) (by kernel_rfl) (by kernel_rfl) tabM_len (hd.trans (congrArg (fun d => some (d, p)) (by kernel_rfl))))
theorem laid_bm {w : World} (h : laidMetH Tryd.prog [("selvedge/props.brackets", Rows.laid_selvedge_props_brackets), ("selvedge/props.mirrors", Rows.laid_selvedge_props_mirrors)] w) : LaidW w := by
  rw [MakeChecks.laidMetH_plain _ _ _ (by kernel_rfl)] at h
  obtain ⟨ps, ⟨g0, t0, cs0, f0, p0, q0, hg0, ht0, hv0, hd0, ⟨g1, t1, cs1, f1, p1, q1, hg1, ht1, hv1, hd1, _, _⟩, _⟩, _, _⟩ := h
  exact ⟨trivial, brackets_of hg0 ht0 hv0 hd0, mirrors_of hg1 ht1 hv1 hd1⟩
end Go.Proofs.YtgfkbijmchoolaaDoor.Ld

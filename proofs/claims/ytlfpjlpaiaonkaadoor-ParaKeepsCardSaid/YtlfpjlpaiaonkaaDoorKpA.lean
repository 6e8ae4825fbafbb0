/- Layer 13: the law ParaKeeps, walked: whatever the flow, the styles and the hardening, it answers true. -/
import Derived.Test.YtlfpjlpaiaonkaaDoorP8
import Derived.Test.YtlfpjlpaiaonkaaDoorP0
import Derived.ProofKit
import Derived.OpenShut
import Derived.LaidMore
import Derived.Deep.Slices
import Derived.Lib.SmallJoins
import Derived.Test.YtlfpjlpaiaonkaaDoorSpS
import Derived.Test.YtlfpjlpaiaonkaaDoorQb
import Derived.Test.YtlfpjlpaiaonkaaDoorP5
import Derived.Deep.RegionLaw
import Derived.Outline
namespace Go.Proofs.YtlfpjlpaiaonkaaDoor.P
open Go.Proofs.YtlfpjlpaiaonkaaDoorH Go.RowKit Go.Proofs.YtlfpjlpaiaonkaaDoorW.PrintWords Go.Proofs.YtlfpjlpaiaonkaaDoorW.PrintLast Go.Proofs.YtlfpjlpaiaonkaaDoorW.PrintMore
set_option linter.unusedVariables false
set_option linter.unusedSimpArgs false

/-! ### Class -/
theorem rd_range (T : List T3) (i : Nat) (h : i < T.length) : rd_T88 (T.map mkRange) (i : Int) = mkRange (T.getD i (0, 0, 0)) := by
  unfold rd_T88
  rw [List.getD_eq_getElem?_getD, List.getElem?_map, List.getD_eq_getElem?_getD, Int.toNat_natCast, List.getElem?_eq_getElem h]
  rfl
/-- The document's search: the first range that has the character. -/
def clsAny (r : Int) : List T3 → Int
  | [] => 1
  | x :: T => if r ≥ x.1 ∧ r ≤ x.2.1 then x.2.2 else clsAny r T
theorem cls_from (r : Int) (T : List T3) (hT : T.length ≤ 1000) (d : Nat) : ∀ (i k : Nat), i ≤ T.length → T.length - i = d → d < k →
    selvedgeref01_Class.l0 k r (T.map mkRange) (i : Int) = some (clsAny r (T.drop i)) := by
  induction d with
  | zero =>
    intro i k hi hd hk
    obtain ⟨k, rfl⟩ : ∃ m, k = m + 1 := ⟨k - 1, by omega⟩
    simp only [selvedgeref01_Class.l0]
    rw [if_neg (by rw [List.length_map]; omega), List.drop_eq_nil_of_le (by omega)]
    rfl
  | succ d ih =>
    intro i k hi hd hk
    obtain ⟨k, rfl⟩ : ∃ m, k = m + 1 := ⟨k - 1, by omega⟩
    have hlt : i < T.length := by omega
    have hw : wrap64 ((i : Int) + 1) = ((i + 1 : Nat) : Int) := by unfold wrap64; omega
    have h := ih (i + 1) k (by omega) (by omega) (by omega)
    simp only [selvedgeref01_Class.l0]
    rw [if_pos (by rw [List.length_map]; omega), if_pos (by omega), rd_range T i hlt, hw, h, List.drop_eq_getElem_cons hlt, List.getD_eq_getElem?_getD, List.getElem?_eq_getElem hlt]
    simp only [Option.getD_some, mkRange, clsAny]
    by_cases h1 : r ≥ T[i].1
    · by_cases h2 : r ≤ T[i].2.1
      · simp [h1, h2]
      · simp [h1, h2]
    · simp [h1]
/-- The table rises. -/
def rising : List T3 → Bool
  | [] => true
  | [x] => decide (x.1 ≤ x.2.1)
  | x :: y :: T => decide (x.1 ≤ x.2.1) && decide (x.2.1 < y.1) && rising (y :: T)
theorem rising_tail {x : T3} {T : List T3} (h : rising (x :: T) = true) : rising T = true := by
  cases T with
  | nil => rfl
  | cons y T => simp only [rising, Bool.and_eq_true] at h; exact h.2
theorem rising_above (r : Int) : ∀ (T : List T3) (x : T3), rising (x :: T) = true → r ≤ x.2.1 → clsAny r T = 1
  | [], _, _, _ => rfl
  | y :: T, x, h, hr => by
    simp only [rising, Bool.and_eq_true, decide_eq_true_eq] at h
    have hy : y.1 ≤ y.2.1 := by
      cases T with
      | nil => simpa [rising] using h.2
      | cons z T => have h2 := h.2; simp only [rising, Bool.and_eq_true, decide_eq_true_eq] at h2; exact h2.1.1
    simp only [clsAny]
    rw [if_neg (by intro e; omega)]
    exact rising_above r T y h.2 (by omega)
theorem clsAny_eq (r : Int) : ∀ T : List T3, rising T = true → clsAny r T = clsFrom r T
  | [], _ => rfl
  | x :: T, h => by
    have hx : x.1 ≤ x.2.1 := by
      cases T with
      | nil => simpa [rising] using h
      | cons z T => simp only [rising, Bool.and_eq_true, decide_eq_true_eq] at h; exact h.1.1
    simp only [clsAny, clsFrom]
    by_cases h1 : r < x.1
    · rw [if_pos h1, if_neg (by intro e; omega)]
      exact rising_above r T x h (by omega)
    · rw [if_neg h1]
      by_cases h2 : r ≤ x.2.1
      · rw [if_pos h2, if_pos ⟨by omega, h2⟩]
      · rw [if_neg h2, if_neg (fun e => h2 e.2)]
        exact clsAny_eq r T (rising_tail h)
theorem tabC_rises : rising tabC = true := by kernel_rfl
theorem letters : ((List.range 26).all fun n => clsOf (65 + (n : Int)) == 1 && clsOf (97 + (n : Int)) == 1) = true := by kernel_rfl
theorem cls_letter {r : Int} (h : 65 ≤ r ∧ r ≤ 90 ∨ 97 ≤ r ∧ r ≤ 122) : clsOf r = 1 := by
  have hl := letters
  rw [List.all_eq_true] at hl
  rcases h with h | h
  · have := hl (r - 65).toNat (by rw [List.mem_range]; omega)
    simp only [Bool.and_eq_true, beq_iff_eq] at this
    rw [show (65 : Int) + ((r - 65).toNat : Int) = r by omega] at this
    exact this.1
  · have := hl (r - 97).toNat (by rw [List.mem_range]; omega)
    simp only [Bool.and_eq_true, beq_iff_eq] at this
    rw [show (97 : Int) + ((r - 97).toNat : Int) = r by omega] at this
    exact this.2
theorem ref_j (r : Int) (k : Nat) (hk : 200 ≤ k) : selvedgeref01_Class.j0 k r false = some (clsOf r) := by
  obtain ⟨k, rfl⟩ : ∃ m, k = m + 1 := ⟨k - 1, by omega⟩
  simp only [selvedgeref01_Class.j0]
  rw [if_neg (by decide)]
  have h := cls_from r tabC (by rw [tabC_len]; decide) 146 0 k (by omega) (by rw [tabC_len]) (by omega)
  rw [List.drop_zero, clsAny_eq r tabC tabC_rises] at h
  exact h
theorem ref_jt (r : Int) (k : Nat) (hk : 200 ≤ k) (h : clsOf r = 1) : selvedgeref01_Class.j0 k r true = some (clsOf r) := by
  obtain ⟨k, rfl⟩ : ∃ m, k = m + 1 := ⟨k - 1, by omega⟩
  simp only [selvedgeref01_Class.j0]
  rw [if_pos trivial, h]
theorem ref_Class (r : Int) (k : Nat) (hk : 200 ≤ k) : selvedgeref01_Class.f k r = some (clsOf r) := by
  unfold selvedgeref01_Class.f
  by_cases h1 : r ≥ 65
  · rw [if_pos h1]
    by_cases h2 : r ≤ 90
    · rw [if_pos h2]; exact ref_jt r k hk (cls_letter (.inl ⟨h1, h2⟩))
    · rw [if_neg h2]
      by_cases h3 : r ≥ 97
      · rw [if_pos h3]
        by_cases h4 : r ≤ 122
        · rw [decide_eq_true h4]; exact ref_jt r k hk (cls_letter (.inr ⟨h3, h4⟩))
        · rw [decide_eq_false h4]; exact ref_j r k hk
      · rw [if_neg h3]; exact ref_j r k hk
  · rw [if_neg h1, if_neg (by omega)]
    exact ref_j r k hk
end Go.Proofs.YtlfpjlpaiaonkaaDoor.P
namespace Go.Proofs.YtlfpjlpaiaonkaaDoor.Opn
open Go.ChangeShapes Go.WideShapes Go.ChangeAt Go.RowKit Go.Deep Go.Proofs.YtlfpjlpaiaonkaaDoorW.PrintWords Go.Proofs.YtlfpjlpaiaonkaaDoorW.PrintLast Go.Proofs.YtlfpjlpaiaonkaaDoorW.PrintMore Go.Proofs.YtlfpjlpaiaonkaaDoorH Go.Proofs.YtlfpjlpaiaonkaaDoor.P
set_option linter.unusedVariables false
set_option linter.unusedSimpArgs false
section
variable {H : Type} {enc : TypeId × Value → H} {P : Program} {w : World} {base : Nat} {spare : Nat → Bool} {held : Bool}
/-- Whatever reads at type t is a value of kind d, and good. -/
def Opens (enc : TypeId × Value → H) (P : Program) (w : World) (base : Nat) (spare : Nat → Bool) (held : Bool) {α : Type} (d : Kd α) (t : TypeId) (good : α → Prop) : Prop :=
  ∀ (fuel : Nat) (cs : List Value) (x : DataW H × List MemPlace), DataW.trod enc P w base spare held fuel t cs = some x → ∃ p, d.K w p cs ∧ good p
theorem opens_int {t : TypeId} {k : IntKind} (ht : P.underlying t = some (.int k)) : Opens enc P w base spare held (Kd.int k) t (fun n => (Lit.int k n).wf = true) := fun fuel cs x h =>
  let ⟨n, h1, _, h3⟩ := DataW.trod_int ht h; ⟨n, h1, h3⟩
theorem opens_bool {t : TypeId} (ht : P.underlying t = some .bool) : Opens enc P w base spare held Kd.bool t (fun _ => True) := fun fuel cs x h =>
  let ⟨n, h1, _⟩ := DataW.trod_bool ht h; ⟨n, h1, trivial⟩
theorem opens_C {α : Type} {d : Kd α} {t e : TypeId} {good : α → Prop} (ht : P.underlying t = some (.slice e)) (hc : P.cellsOf e = d.sz) (he : Opens enc P w base spare held d e good) {fuel : Nat} {A : Option Addr} {len cap : Nat} {x : DataW H × List MemPlace}
    (h : DataW.trod enc P w base spare held fuel t [.slice A len cap] = some x) : ∃ xs : List α, xs.length = len ∧ len ≤ cap ∧ d.C w A len xs ∧ ∀ p, p ∈ xs → good p := by
  rcases open_slice ht h with ⟨hcs, _⟩ | ⟨a, l, c, m, n, D, Pl, hcs, hb, hl, hm, hmm, _, hx⟩
  · injection hcs with h1 _
    injection h1 with h1 h2 h3
    subst h1 h2 h3
    exact ⟨[], rfl, Nat.le_refl _, ⟨rfl, by decide, fun h => absurd h (by omega)⟩, fun p hp => by cases hp⟩
  · injection hcs with h1 _
    injection h1 with h1 h2 h3
    subst h1 h2 h3
    have hlm : len ≤ m := by rw [hmm]; split <;> omega
    have hone : ∀ i, i < len → ∃ p, (∃ c, c.length = d.sz ∧ d.K w p c ∧ ∀ j u, c[j]? = some u → w.cell? (a.add (i * d.sz + j)) = some u) ∧ good p := fun i hi => by
      obtain ⟨cs', h1, h2⟩ := hx i (by omega)
      obtain ⟨p, hk, hg⟩ := he _ _ _ h2
      obtain ⟨_, hlen, hcell⟩ := World.cells?_some h1
      rw [hc] at hlen hcell
      refine ⟨p, ⟨cs', hlen, hk, fun j u hu => ?_⟩, hg⟩
      have := hcell j (by rw [← hlen]; exact (List.getElem?_eq_some_iff.1 hu).1)
      rw [Deep.add_add, hu] at this
      exact this
    classical
    let f : (i : Nat) → i < len → α := fun i hi => Classical.choose (hone i hi)
    have hf : ∀ i hi, (∃ c, c.length = d.sz ∧ d.K w (f i hi) c ∧ ∀ j u, c[j]? = some u → w.cell? (a.add (i * d.sz + j)) = some u) ∧ good (f i hi) := fun i hi => Classical.choose_spec (hone i hi)
    refine ⟨List.ofFn (n := len) (fun i => f i.1 i.2), List.length_ofFn, hl, ⟨List.length_ofFn, Nat.le_trans hl (Nat.le_trans hm (by decide)), fun _ => ⟨a, rfl, fun j p hj => ?_⟩⟩, fun p hp => ?_⟩
    · obtain ⟨hjl, hje⟩ := List.getElem?_eq_some_iff.1 hj
      rw [List.getElem_ofFn] at hje
      rw [← hje]
      exact (hf j (by simpa using hjl)).1
    · obtain ⟨i, hi⟩ := List.mem_ofFn.1 hp
      rw [← hi]
      exact (hf i.1 i.2).2
theorem opens_slice {α : Type} {d : Kd α} {t e : TypeId} {good : α → Prop} (ht : P.underlying t = some (.slice e)) (hc : P.cellsOf e = d.sz) (he : Opens enc P w base spare held d e good) : Opens enc P w base spare held (Kd.slice e d) t (fun xs => ∀ p, p ∈ xs → good p) := fun fuel cs x h => by
  obtain ⟨A, l, c, rfl⟩ := Go.Joins.slice_form ht h
  obtain ⟨xs, h1, h2, h3, h4⟩ := opens_C ht hc he h
  subst h1
  exact ⟨xs, ⟨A, c, rfl, h2, h3⟩, h4⟩
theorem pair_open {α β : Type} {a : Kd α} {b : Kd β} {x : α} {y : β} {cs : List Value} {o s : Nat} (h0 : a.K w x ((cs.drop o).take s)) (h1 : b.K w y (cs.drop (o + s))) : (Kd.pair a b).K w (x, y) (cs.drop o) :=
  ⟨_, _, by rw [← List.drop_drop, List.take_append_drop], h0, h1⟩
theorem last_open {α : Type} {a : Kd α} {x : α} {cs : List Value} {o s n : Nat} (hl : cs.length = n) (hn : n = o + s) (h0 : a.K w x ((cs.drop o).take s)) : a.K w x (cs.drop o) := by
  rwa [List.take_of_length_le (by rw [List.length_drop]; omega)] at h0
theorem fld {α : Type} {d : Kd α} {good : α → Prop} {fs : Array Field} {cs : List Value} {n : Nat} {xs : List (DataW H × List MemPlace)} (hn : xs.length = fs.size)
    (hf : ∀ (i : Nat) (f : Field), fs[i]? = some f → DataW.trod enc P w base spare held n f.type ((cs.drop f.offset).take (P.cellsOf f.type)) = xs[i]?) (i : Nat) {f : Field} (hi : fs[i]? = some f) (s o : Nat) (t : TypeId) (ht : f.type = t) (ho : f.offset = o) (hs : P.cellsOf t = s)
    (hd : Opens enc P w base spare held d t good) : ∃ p, d.K w p ((cs.drop o).take s) ∧ good p := by
  have h := hf i f hi
  obtain ⟨hlt, _⟩ := Array.getElem?_eq_some_iff.1 hi
  rw [List.getElem?_eq_getElem (by omega), ht, ho, hs] at h
  exact hd _ _ _ h
theorem drop_zero_ {cs : List Value} {Q : List Value → Prop} (h : Q (cs.drop 0)) : Q cs := by rwa [List.drop_zero] at h
end
section
variable {H : Type} {enc : TypeId × Value → H} {w : World} {base : Nat} {spare : Nat → Bool} {held : Bool}
def goodSty (s : S52) : Prop := (0 ≤ s.f0 ∧ s.f0 ≤ 255) ∧ (0 ≤ s.f1 ∧ s.f1 ≤ 255) ∧ (0 ≤ s.f2 ∧ s.f2 ≤ 255) ∧ (0 ≤ s.f3 ∧ s.f3 ≤ 255) ∧ (Lit.int .i64 s.f4).wf = true ∧ (Lit.int .i64 s.f5).wf = true
set_option maxRecDepth 100000 in
theorem opens_sty : Opens enc Tryd.prog w base spare held k52 52 goodSty := fun fuel cs x h => by
  obtain ⟨xs, n, _, _, hl, hn, hf⟩ := DataW.trod_struct Tryd.underlying52 h
  rw [show Tryd.prog.cellsOf 52 = 6 by kernel_rfl] at hl
  obtain ⟨p0, k0, g0⟩ := fld hn hf 0 rfl 1 0 5 rfl rfl (by kernel_rfl) (opens_int Tryd.underlying5)
  obtain ⟨p1, k1, g1⟩ := fld hn hf 1 rfl 1 1 5 rfl rfl (by kernel_rfl) (opens_int Tryd.underlying5)
  obtain ⟨p2, k2, g2⟩ := fld hn hf 2 rfl 1 2 5 rfl rfl (by kernel_rfl) (opens_int Tryd.underlying5)
  obtain ⟨p3, k3, g3⟩ := fld hn hf 3 rfl 1 3 5 rfl rfl (by kernel_rfl) (opens_int Tryd.underlying5)
  obtain ⟨p4, k4, g4⟩ := fld hn hf 4 rfl 1 4 3 rfl rfl (by kernel_rfl) (opens_int Tryd.underlying3)
  obtain ⟨p5, k5, g5⟩ := fld hn hf 5 rfl 1 5 3 rfl rfl (by kernel_rfl) (opens_int Tryd.underlying3)
  exact ⟨⟨p0, p1, p2, p3, p4, p5⟩, drop_zero_ (Q := fun cs => k52.K w ⟨p0, p1, p2, p3, p4, p5⟩ cs) (pair_open k0 (pair_open k1 (pair_open k2 (pair_open k3 (pair_open k4 (last_open hl rfl k5)))))), bounds_u8 g0, bounds_u8 g1, bounds_u8 g2, bounds_u8 g3, g4, g5⟩
def goodItm (s : S47) : Prop := (0 ≤ s.f0 ∧ s.f0 ≤ 255) ∧ (Lit.int .i64 s.f1).wf = true ∧ (Lit.int .i32 s.f3).wf = true ∧ (Lit.int .i64 s.f4).wf = true
set_option maxRecDepth 100000 in
theorem opens_itm : Opens enc Tryd.prog w base spare held k47 47 goodItm := fun fuel cs x h => by
  obtain ⟨xs, n, _, _, hl, hn, hf⟩ := DataW.trod_struct Tryd.underlying47 h
  rw [show Tryd.prog.cellsOf 47 = 5 by kernel_rfl] at hl
  obtain ⟨p0, k0, g0⟩ := fld hn hf 0 rfl 1 0 5 rfl rfl (by kernel_rfl) (opens_int Tryd.underlying5)
  obtain ⟨p1, k1, g1⟩ := fld hn hf 1 rfl 1 1 3 rfl rfl (by kernel_rfl) (opens_int Tryd.underlying3)
  obtain ⟨p2, k2, g2⟩ := fld hn hf 2 rfl 1 2 4 rfl rfl (by kernel_rfl) (opens_bool Tryd.underlying4)
  obtain ⟨p3, k3, g3⟩ := fld hn hf 3 rfl 1 3 21 rfl rfl (by kernel_rfl) (opens_int Tryd.underlying21)
  obtain ⟨p4, k4, g4⟩ := fld hn hf 4 rfl 1 4 3 rfl rfl (by kernel_rfl) (opens_int Tryd.underlying3)
  exact ⟨⟨p0, p1, p2, p3, p4⟩, drop_zero_ (Q := fun cs => k47.K w ⟨p0, p1, p2, p3, p4⟩ cs) (pair_open k0 (pair_open k1 (pair_open k2 (pair_open k3 (last_open hl rfl k4))))), bounds_u8 g0, g1, g3, g4⟩
/-! ### Arguments -/
set_option maxRecDepth 100000 in
theorem arg_sty {r : Reach} {b0 : Nat} {v : Value} {d : DataW H} {p : List MemPlace} (hv : Value.okWide Tryd.prog w r b0 52 v) (h : DataW.Trod enc Tryd.prog w base spare held 52 v d p) :
    ∃ s : S52, v = .agg #[.int .u8 s.f0, .int .u8 s.f1, .int .u8 s.f2, .int .u8 s.f3, .int .i64 s.f4, .int .i64 s.f5] ∧ goodSty s := by
  obtain ⟨cs, rfl, hsz⟩ := okWide_struct Tryd.underlying52 hv
  obtain ⟨fuel, hf⟩ := h
  obtain ⟨s, hk, hg⟩ := opens_sty _ _ _ hf
  refine ⟨s, ?_, hg⟩
  have := k52_open hk
  simp only [Value.cells] at this
  exact congrArg Value.agg (Array.toList_inj.1 this)
theorem arg_slice {α : Type} {k : Kd α} {t e : TypeId} {good : α → Prop} {P : Program} (ht : P.underlying t = some (.slice e)) (hc : P.cellsOf e = k.sz) (he : Opens enc P w base spare held k e good) {A : Option Addr} {len cap : Nat} {d : DataW H} {p : List MemPlace}
    (h : DataW.Trod enc P w base spare held t (.slice A len cap) d p) : ∃ xs : List α, xs.length = len ∧ len ≤ cap ∧ k.C w A len xs ∧ ∀ p, p ∈ xs → good p := by
  obtain ⟨fuel, hf⟩ := h
  exact opens_C ht hc he (by simpa [Value.cells] using hf)
set_option maxRecDepth 100000 in
theorem arg_flow {r : Reach} {b0 : Nat} {v : Value} {d : DataW H} {p : List MemPlace} (hv : Value.okWide Tryd.prog w r b0 24 v) (h : DataW.Trod enc Tryd.prog w base spare held 24 v d p) :
    ∃ (b : Int) (A : Option Addr) (xs : List S47) (c : Nat), v = .agg #[.int .i64 b, .slice A xs.length c] ∧ xs.length ≤ c ∧ Kd.C k47 w A xs.length xs ∧ (Lit.int .i64 b).wf = true ∧ ∀ p, p ∈ xs → goodItm p := by
  obtain ⟨cs, rfl, hsz⟩ := okWide_struct Tryd.underlying24 hv
  obtain ⟨fuel, hf⟩ := h
  simp only [Value.cells] at hf
  obtain ⟨xs, n, _, _, hl, hn, hff⟩ := DataW.trod_struct Tryd.underlying24 hf
  rw [show Tryd.prog.cellsOf 24 = 2 by kernel_rfl] at hl
  obtain ⟨p0, k0, g0⟩ := fld hn hff 0 rfl 1 0 3 rfl rfl (by kernel_rfl) (opens_int Tryd.underlying3)
  obtain ⟨p1, k1, g1⟩ := fld hn hff 1 rfl 1 1 22 rfl rfl (by kernel_rfl) (opens_slice Tryd.underlying22 (by kernel_rfl) opens_itm)
  have hK : (Kd.pair (Kd.int .i64) (Kd.slice 47 k47)).K w (p0, p1) cs.toList := drop_zero_ (Q := fun cs => (Kd.pair (Kd.int .i64) (Kd.slice 47 k47)).K w (p0, p1) cs) (pair_open k0 (last_open hl rfl k1))
  obtain ⟨_, _, hcs, rfl, A, c, rfl, hle, hC⟩ := hK
  exact ⟨p0, A, p1, c, congrArg Value.agg (Array.toList_inj.1 hcs), hle, hC, g0, g1⟩
end
end Go.Proofs.YtlfpjlpaiaonkaaDoor.Opn
namespace Go.Proofs.YtlfpjlpaiaonkaaDoor.Sp
open Go.RowKit Go.Proofs.YtlfpjlpaiaonkaaDoorW.PrintWords Go.Proofs.YtlfpjlpaiaonkaaDoorW.PrintLast Go.Proofs.YtlfpjlpaiaonkaaDoorW.PrintMore Go.Proofs.YtlfpjlpaiaonkaaDoorH Go.Proofs.YtlfpjlpaiaonkaaDoor.P Go.Proofs.YtlfpjlpaiaonkaaDoor.Mp
set_option linter.unusedVariables false
set_option linter.unusedSimpArgs false
/-! ### Groups -/
theorem lookI_put_ne {α : Type} (k q : Int) (v : α) (h : q ≠ k) : ∀ (M : List (Int × α)) (j : Nat), (lookI q (putI k v M) j).map (·.2) = (lookI q M j).map (·.2) := by
  have hs : ∀ (M : List (Int × α)) (j : Nat), (lookI q (setI k v M) j).map (·.2) = (lookI q M j).map (·.2) := by
    intro M
    induction M with
    | nil => intro j; rfl
    | cons x M ih =>
      intro j
      unfold setI
      by_cases hx : k = x.1
      · rw [if_pos hx]
        unfold lookI
        rw [if_neg (fun e => h (e.trans hx.symm)), if_neg (fun e => h (e.trans hx.symm))]
      · rw [if_neg hx]
        unfold lookI
        by_cases hq : q = x.1
        · rw [if_pos hq, if_pos hq]
        · rw [if_neg hq, if_neg hq]
          exact ih (j + 1)
  have ha : ∀ (M : List (Int × α)) (j : Nat), (lookI q (M ++ [(k, v)]) j).map (·.2) = (lookI q M j).map (·.2) := by
    intro M
    induction M with
    | nil =>
      intro j
      simp only [List.nil_append]
      unfold lookI
      rw [if_neg h]
      rfl
    | cons x M ih =>
      intro j
      simp only [List.cons_append]
      unfold lookI
      by_cases hq : q = x.1
      · rw [if_pos hq, if_pos hq]
      · rw [if_neg hq, if_neg hq]
        exact ih (j + 1)
  intro M j
  unfold putI
  split
  · exact hs M j
  · exact ha M j
theorem lookI_put_eq {α : Type} (k : Int) (v : α) : ∀ (M : List (Int × α)) (j : Nat), (lookI k (putI k v M) j).map (·.2) = some v := by
  have hs : ∀ (M : List (Int × α)) (j : Nat), (lookI k M j).isSome = true → (lookI k (setI k v M) j).map (·.2) = some v := by
    intro M
    induction M with
    | nil => intro j h; simp [lookI] at h
    | cons x M ih =>
      intro j h
      unfold setI
      by_cases hx : k = x.1
      · rw [if_pos hx]
        unfold lookI
        rw [if_pos hx]
        rfl
      · rw [if_neg hx]
        unfold lookI at h ⊢
        rw [if_neg hx] at h ⊢
        exact ih (j + 1) h
  have ha : ∀ (M : List (Int × α)) (j : Nat), (lookI k M j).isSome = false → (lookI k (M ++ [(k, v)]) j).map (·.2) = some v := by
    intro M
    induction M with
    | nil =>
      intro j _
      simp only [List.nil_append]
      unfold lookI
      rw [if_pos rfl]
      rfl
    | cons x M ih =>
      intro j h
      simp only [List.cons_append]
      unfold lookI at h ⊢
      by_cases hq : k = x.1
      · rw [if_pos hq] at h; cases h
      · rw [if_neg hq] at h ⊢
        exact ih (j + 1) h
  have hj : ∀ (M : List (Int × α)) (i j : Nat), (lookI k M i).isSome = (lookI k M j).isSome := by
    intro M
    induction M with
    | nil => intro i j; rfl
    | cons x M ih =>
      intro i j
      unfold lookI
      by_cases hq : k = x.1
      · rw [if_pos hq, if_pos hq]; rfl
      · rw [if_neg hq, if_neg hq]; exact ih (i + 1) (j + 1)
  intro M j
  unfold putI
  split
  · rename_i h
    exact hs M j (by rw [hj M j 0]; exact h)
  · rename_i h
    exact ha M j (by rw [hj M j 0]; simpa using h)
theorem rowI_put (k q : Int) (v : List Int) (G : List (Int × List Int)) : rowI q (putI k v G) = if q = k then v else rowI q G := by
  unfold rowI
  split
  · rename_i h
    subst h
    rw [lookI_put_eq]
    rfl
  · rename_i h
    rw [lookI_put_ne k q v h]
/-- A key stands once. -/
def Uniq (G : List (Int × List Int)) : Prop := (G.map (·.1)).Nodup
theorem lookI_isSome {α : Type} (k : Int) : ∀ (M : List (Int × α)) (j : Nat), (lookI k M j).isSome = true ↔ k ∈ M.map (·.1)
  | [], j => by simp [lookI]
  | x :: M, j => by
    unfold lookI
    by_cases hq : k = x.1
    · rw [if_pos hq]; simp [hq]
    · rw [if_neg hq, lookI_isSome k M (j + 1)]
      simp only [List.map_cons, List.mem_cons]
      exact ⟨.inr, fun h => h.elim (fun e => absurd e hq) id⟩
theorem Uniq.put {G : List (Int × List Int)} (h : Uniq G) (k : Int) (v : List Int) : Uniq (putI k v G) := by
  unfold Uniq putI
  split
  · rw [setI_keys]
    exact h
  · rename_i hk
    rw [lookI_isSome] at hk
    rw [List.map_append]
    refine List.nodup_append.2 ⟨h, by simp, fun a ha b hb => ?_⟩
    simp only [List.map_cons, List.map_nil, List.mem_singleton] at hb
    rw [hb]
    exact fun e => hk (e ▸ ha)
theorem rowI_mem {G : List (Int × List Int)} (h : Uniq G) (j : Int) : j ∈ G.flatMap (·.2) ↔ ∃ k, j ∈ rowI k G := by
  induction G with
  | nil => simp [rowI, lookI]
  | cons x G ih =>
    have hn : x.1 ∉ G.map (·.1) := (List.nodup_cons.1 h).1
    have hu : Uniq G := (List.nodup_cons.1 h).2
    have hi : ∀ (M : List (Int × List Int)) (k : Int) (i j : Nat), (lookI k M i).map (·.2) = (lookI k M j).map (·.2) := by
      intro M
      induction M with
      | nil => intro k i j; rfl
      | cons y M ihM =>
        intro k i j
        unfold lookI
        by_cases hq : k = y.1
        · rw [if_pos hq, if_pos hq]; rfl
        · rw [if_neg hq, if_neg hq]; exact ihM k (i + 1) (j + 1)
    have hr : ∀ k, rowI k (x :: G) = if k = x.1 then x.2 else rowI k G := by
      intro k
      unfold rowI
      conv => lhs; unfold lookI
      split
      · rfl
      · rw [hi G k (0 + 1) 0]
    simp only [List.flatMap_cons, List.mem_append, ih hu]
    constructor
    · rintro (hj | ⟨k, hk⟩)
      · exact ⟨x.1, by rw [hr, if_pos rfl]; exact hj⟩
      · refine ⟨k, ?_⟩
        rw [hr]
        split
        · rename_i e
          subst e
          exfalso
          have : rowI x.1 G = [] := by
            unfold rowI
            cases hl : lookI x.1 G 0 with
            | none => rfl
            | some y => exact absurd ((lookI_isSome x.1 G 0).1 (by rw [hl]; rfl)) hn
          rw [this] at hk
          cases hk
        · exact hk
    · rintro ⟨k, hk⟩
      rw [hr] at hk
      split at hk
      · exact .inl hk
      · exact .inr ⟨k, hk⟩
/-! ### The run of the pieces, the isolates that stay open -/
abbrev Ev := Pos × Int
/-- Which pieces are open: the number of the last one, the open ones, the innermost first. -/
def nstR : List Ev → Int → List Int → Option (Int × List Int)
  | [], c, st => some (c, st)
  | x :: xs, c, st =>
    if x.1.f2 = true then
      if x.2 = 0 then
        if clsOf x.1.f0 = 20 ∨ clsOf x.1.f0 = 21 ∨ clsOf x.1.f0 = 22 then nstR xs (c + 1) ((c + 1) :: st)
        else if clsOf x.1.f0 = 23 then (match st with | [] => none | _ :: t => nstR xs c t)
        else nstR xs c st
      else none
    else if x.2 = st.headD 0 then nstR xs c st else none
theorem nstR_app : ∀ (xs ys : List Ev) (c : Int) (st : List Int), nstR (xs ++ ys) c st = (nstR xs c st).bind fun p => nstR ys p.1 p.2
  | [], ys, c, st => rfl
  | x :: xs, ys, c, st => by
    simp only [List.cons_append, nstR]
    split
    · split
      · split
        · exact nstR_app xs ys _ _
        · split
          · cases st with
            | nil => rfl
            | cons s t => exact nstR_app xs ys _ _
          · exact nstR_app xs ys _ _
      · rfl
    · split
      · exact nstR_app xs ys _ _
      · rfl
/-- The law's run over isolates: who has put those that stay open. -/
def isoR : List Pos → List Bool → Option (List Bool)
  | [], st => some st
  | x :: xs, st =>
    if clsOf x.f0 < 20 ∨ 23 < clsOf x.f0 ∨ (x.f2 = false ∧ st = []) then isoR xs st
    else if clsOf x.f0 ≠ 23 then isoR xs (x.f2 :: st)
    else match st with | [] => none | b :: t => if b = x.f2 then isoR xs t else none
/-- The first round of harden, on events: the groups that wait, the places of ends without a beginning. -/
def hs : List Ev → Nat → List (Int × List Int) → List (Int × List Int) × List Int
  | [], _, G => (G, [])
  | x :: xs, i, G =>
    if x.2 = 0 then hs xs (i + 1) G
    else if clsOf x.1.f0 = 20 ∨ clsOf x.1.f0 = 21 ∨ clsOf x.1.f0 = 22 then hs xs (i + 1) (putI x.2 (rowI x.2 G ++ [(i : Int)]) G)
    else if clsOf x.1.f0 = 23 then
      if 0 < (rowI x.2 G).length then hs xs (i + 1) (putI x.2 ((rowI x.2 G).take ((rowI x.2 G).length - 1)) G)
      else ((hs xs (i + 1) G).1, (i : Int) :: (hs xs (i + 1) G).2)
    else hs xs (i + 1) G
/-- The groups' rows: places ahead of i, each once. -/
structure GOk (G : List (Int × List Int)) (i : Nat) : Prop where
  uniq : Uniq G
  lt : ∀ k j, j ∈ rowI k G → 0 ≤ j ∧ j < (i : Int)
  nodup : ∀ k, (rowI k G).Nodup
  apart : ∀ k q j, j ∈ rowI k G → j ∈ rowI q G → k = q
theorem GOk.nil : GOk [] 0 := ⟨List.nodup_nil, (fun k j h => absurd h (by simp [rowI, lookI])), (fun k => by simp [rowI, lookI]), (fun k q j h => absurd h (by simp [rowI, lookI]))⟩
theorem GOk.step {G : List (Int × List Int)} {i : Nat} (h : GOk G i) : GOk G (i + 1) := ⟨h.uniq, fun k j hj => by have := h.lt k j hj; omega, h.nodup, h.apart⟩
theorem GOk.push {G : List (Int × List Int)} {i : Nat} (h : GOk G i) (p : Int) : GOk (putI p (rowI p G ++ [(i : Int)]) G) (i + 1) := by
  have hm : ∀ k j, j ∈ rowI k (putI p (rowI p G ++ [(i : Int)]) G) ↔ (j ∈ rowI k G ∨ (k = p ∧ j = (i : Int))) := by
    intro k j
    rw [rowI_put]
    split
    · rename_i e
      subst e
      simp
    · rename_i e
      simp [e]
  refine ⟨h.uniq.put _ _, fun k j hj => ?_, fun k => ?_, fun k q j hj hq => ?_⟩
  · rcases (hm k j).1 hj with h1 | ⟨_, h1⟩
    · have := h.lt k j h1; omega
    · omega
  · rw [rowI_put]
    split
    · refine List.nodup_append.2 ⟨h.nodup p, by simp, fun a ha b hb e => ?_⟩
      rw [List.mem_singleton.1 hb] at e
      have := h.lt p a ha
      omega
    · exact h.nodup k
  · rcases (hm k j).1 hj with h1 | ⟨h1, h2⟩ <;> rcases (hm q j).1 hq with h3 | ⟨h3, h4⟩
    · exact h.apart k q j h1 h3
    · have := h.lt k j h1; omega
    · have := h.lt q j h3; omega
    · rw [h1, h3]
theorem GOk.pop {G : List (Int × List Int)} {i : Nat} (h : GOk G i) (p : Int) : GOk (putI p ((rowI p G).take ((rowI p G).length - 1)) G) (i + 1) := by
  have hm : ∀ k j, j ∈ rowI k (putI p ((rowI p G).take ((rowI p G).length - 1)) G) → j ∈ rowI k G := by
    intro k j hj
    rw [rowI_put] at hj
    split at hj
    · rename_i e
      subst e
      exact List.mem_of_mem_take hj
    · exact hj
  refine ⟨h.uniq.put _ _, fun k j hj => by have := h.lt k j (hm k j hj); omega, fun k => ?_, fun k q j hj hq => h.apart k q j (hm k j hj) (hm q j hq)⟩
  rw [rowI_put]
  split
  · exact (h.nodup p).sublist (List.take_sublist _ _)
  · exact h.nodup k
/-- What waits at the end waited before, or came later. -/
theorem hs_old : ∀ (xs : List Ev) (i : Nat) (G : List (Int × List Int)), GOk G i → ∀ k j, j ∈ rowI k (hs xs i G).1 → j ∈ rowI k G ∨ (i : Int) ≤ j
  | [], i, G, hG, k, j, hj => .inl hj
  | x :: xs, i, G, hG, k, j, hj => by
    simp only [hs] at hj
    split at hj
    · rcases hs_old xs (i + 1) G hG.step k j hj with h | h
      · exact .inl h
      · exact .inr (by omega)
    · split at hj
      · rcases hs_old xs (i + 1) _ (hG.push x.2) k j hj with h | h
        · rw [rowI_put] at h
          split at h
          · rename_i e
            subst e
            rcases List.mem_append.1 h with h | h
            · exact .inl h
            · rw [List.mem_singleton.1 h]; exact .inr (Int.le_refl _)
          · exact .inl h
        · exact .inr (by omega)
      · split at hj
        · split at hj
          · rcases hs_old xs (i + 1) _ (hG.pop x.2) k j hj with h | h
            · rw [rowI_put] at h
              split at h
              · rename_i e
                subst e
                exact .inl (List.mem_of_mem_take h)
              · exact .inl h
            · exact .inr (by omega)
          · rcases hs_old xs (i + 1) G hG.step k j hj with h | h
            · exact .inl h
            · exact .inr (by omega)
        · rcases hs_old xs (i + 1) G hG.step k j hj with h | h
          · exact .inl h
          · exact .inr (by omega)
theorem hs_ok : ∀ (xs : List Ev) (i : Nat) (G : List (Int × List Int)), GOk G i → GOk (hs xs i G).1 (i + xs.length)
  | [], i, G, hG => hG
  | x :: xs, i, G, hG => by
    have e : i + (x :: xs).length = i + 1 + xs.length := by simp; omega
    rw [e]
    simp only [hs]
    split
    · exact hs_ok xs (i + 1) G hG.step
    · split
      · exact hs_ok xs (i + 1) _ (hG.push x.2)
      · split
        · split
          · exact hs_ok xs (i + 1) _ (hG.pop x.2)
          · exact hs_ok xs (i + 1) G hG.step
        · exact hs_ok xs (i + 1) G hG.step
/-- A piece that is closed keeps its row. -/
theorem hs_closed (q : Int) : ∀ (xs : List Ev) (i : Nat) (G : List (Int × List Int)) (c : Int) (st : List Int), q ≠ 0 → q ≤ c → q ∉ st → (nstR xs c st).isSome = true → rowI q (hs xs i G).1 = rowI q G
  | [], i, G, c, st, h0, hc, hst, hn => rfl
  | x :: xs, i, G, c, st, h0, hc, hst, hn => by
    have hne : x.1.f2 = false → x.2 ≠ 0 → x.2 ≠ q := by
      intro hx hz e
      simp only [nstR, hx] at hn
      rw [if_neg (by decide)] at hn
      split at hn
      · rename_i he
        rw [e] at he
        cases st with
        | nil => exact h0 he
        | cons s t => exact hst (by rw [he]; simp)
      · cases hn
    have hctl : x.1.f2 = true → x.2 = 0 := by
      intro hx
      simp only [nstR, hx, if_pos] at hn
      split at hn
      · assumption
      · cases hn
    have hrec : ∃ c' st', q ≤ c' ∧ q ∉ st' ∧ (nstR xs c' st').isSome = true := by
      simp only [nstR] at hn
      split at hn
      · split at hn
        · split at hn
          · exact ⟨c + 1, (c + 1) :: st, by omega, fun h => (List.mem_cons.1 h).elim (fun e => by omega) hst, hn⟩
          · split at hn
            · cases st with
              | nil => cases hn
              | cons s t => exact ⟨c, t, hc, fun h => hst (List.mem_cons_of_mem _ h), hn⟩
            · exact ⟨c, st, hc, hst, hn⟩
        · cases hn
      · split at hn
        · exact ⟨c, st, hc, hst, hn⟩
        · cases hn
    obtain ⟨c', st', h1, h2, h3⟩ := hrec
    simp only [hs]
    split
    · exact hs_closed q xs (i + 1) G c' st' h0 h1 h2 h3
    · rename_i hz
      have hf : x.1.f2 = false := by
        cases hx : x.1.f2
        · rfl
        · exact absurd (hctl hx) hz
      have hq := hne hf hz
      split
      · rw [hs_closed q xs (i + 1) _ c' st' h0 h1 h2 h3, rowI_put, if_neg (fun e => hq e.symm)]
      · split
        · split
          · rw [hs_closed q xs (i + 1) _ c' st' h0 h1 h2 h3, rowI_put, if_neg (fun e => hq e.symm)]
          · exact hs_closed q xs (i + 1) G c' st' h0 h1 h2 h3
        · exact hs_closed q xs (i + 1) G c' st' h0 h1 h2 h3
/-! ### hardened, the isolates of boxes are matched -/
theorem hs_bad : ∀ (xs : List Ev) (i : Nat) (G : List (Int × List Int)) (j : Int), j ∈ (hs xs i G).2 → (i : Int) ≤ j
  | [], i, G, j, h => by cases h
  | x :: xs, i, G, j, h => by
    have hr : ∀ G', j ∈ (hs xs (i + 1) G').2 → (i : Int) ≤ j := fun G' h' => by have := hs_bad xs (i + 1) G' j h'; omega
    simp only [hs] at h
    split at h
    · exact hr _ h
    · split at h
      · exact hr _ h
      · split at h
        · split at h
          · exact hr _ h
          · rcases List.mem_cons.1 h with h | h
            · omega
            · exact hr _ h
        · exact hr _ h
/-- What becomes of places, told by their numbers. -/
def finL (q : Int → Bool) : List Pos → Nat → List Pos
  | [], _ => []
  | x :: xs, i => (if q (i : Int) = true then { x with f0 := 65533 } else x) :: finL q xs (i + 1)
def surv (m : Int → Bool) (row : List Int) : Nat := (row.filter fun j => !m j).length
def stk (m : Int → Bool) (G : List (Int × List Int)) (st : List Int) : List Bool := st.flatMap fun p => List.replicate (surv m (rowI p G)) false ++ [true]
theorem stk_cons (m : Int → Bool) (G : List (Int × List Int)) (p : Int) (st : List Int) : stk m G (p :: st) = List.replicate (surv m (rowI p G)) false ++ (true :: stk m G st) := by simp [stk]
theorem stk_congr (m : Int → Bool) {G G' : List (Int × List Int)} {st : List Int} (h : ∀ p, p ∈ st → surv m (rowI p G') = surv m (rowI p G)) : stk m G' st = stk m G st := by
  induction st with
  | nil => rfl
  | cons p st ih =>
    rw [stk_cons, stk_cons, h p (by simp), ih (fun q hq => h q (List.mem_cons_of_mem _ hq))]
structure StOk (c : Int) (st : List Int) (G : List (Int × List Int)) : Prop where
  zero : 0 ≤ c
  mem : ∀ p, p ∈ st → 1 ≤ p ∧ p ≤ c
  nodup : st.Nodup
  new : ∀ k, c < k → rowI k G = []
theorem cls_fffd : clsOf 65533 = 14 := by kernel_rfl
theorem iso_run (m : Int → Bool) (q : Int → Bool) : ∀ (xs : List Ev) (i : Nat) (G : List (Int × List Int)) (c : Int) (st : List Int) (c' : Int) (st' : List Int), GOk G i → StOk c st G → nstR xs c st = some (c', st') →
    (∀ j, m j = true ↔ ∃ k, j ∈ rowI k (hs xs i G).1) → (∀ j : Int, (i : Int) ≤ j → (q j = true ↔ (m j = true ∨ j ∈ (hs xs i G).2))) → isoR (finL q (xs.map (·.1)) i) (stk m G st) = some (stk m (hs xs i G).1 st')
  | [], i, G, c, st, c', st', hG, hS, hn, hm, hq => by
    simp only [nstR, Option.some.injEq, Prod.mk.injEq] at hn
    rw [← hn.2]
    rfl
  | x :: xs, i, G, c, st, c', st', hG, hS, hn, hm, hq => by
    have hnew : ∀ G', GOk G' (i + 1) → (∀ k, (i : Int) ∉ rowI k G') → ∀ k, (i : Int) ∉ rowI k (hs xs (i + 1) G').1 := fun G' hG' hi k hk => by
      rcases hs_old xs (i + 1) G' hG' k i hk with h | h
      · exact hi k h
      · omega
    have hiG : ∀ k, (i : Int) ∉ rowI k G := fun k hk => by have := hG.lt k i hk; omega
    have hbad : ∀ G', (i : Int) ∉ (hs xs (i + 1) G').2 := fun G' h => by have := hs_bad xs (i + 1) G' i h; omega
    simp only [List.map_cons, finL]
    by_cases hf : x.1.f2 = true
    · -- a control
      simp only [nstR] at hn
      rw [if_pos hf] at hn
      split at hn
      · rename_i hz
        have hs1 : hs (x :: xs) i G = hs xs (i + 1) G := by simp only [hs]; rw [if_pos hz]
        rw [hs1] at hm hq ⊢
        have hmi : m i = false := by
          cases hmi : m (i : Int)
          · rfl
          · obtain ⟨k, hk⟩ := (hm i).1 hmi
            exact absurd hk (hnew G hG.step hiG k)
        have hqi : ¬ q (i : Int) = true := fun h => by
          rcases (hq i (Int.le_refl _)).1 h with h | h
          · rw [hmi] at h; cases h
          · exact hbad G h
        rw [if_neg hqi]
        have hq' : ∀ j : Int, ((i + 1 : Nat) : Int) ≤ j → (q j = true ↔ (m j = true ∨ j ∈ (hs xs (i + 1) G).2)) := fun j hj => hq j (by omega)
        split at hn
        · rename_i hc
          have hS' : StOk (c + 1) ((c + 1) :: st) G := ⟨by have := hS.zero; omega, fun p hp => by
            rcases List.mem_cons.1 hp with rfl | hp
            · have := hS.zero; omega
            · have := hS.mem p hp; omega, List.nodup_cons.2 ⟨fun h => by have := hS.mem _ h; omega, hS.nodup⟩, fun k hk => hS.new k (by omega)⟩
          have ih := iso_run m q xs (i + 1) G (c + 1) ((c + 1) :: st) c' st' hG.step hS' hn hm hq'
          have hst : stk m G ((c + 1) :: st) = true :: stk m G st := by rw [stk_cons, hS.new (c + 1) (by omega)]; rfl
          rw [hst] at ih
          unfold isoR
          rw [if_neg (by rw [hf]; simp; omega), if_pos (by omega), hf]
          exact ih
        · split at hn
          · rename_i hc1 hc
            cases st with
            | nil => cases hn
            | cons p t =>
              have hp := hS.mem p (by simp)
              have hpt := (List.nodup_cons.1 hS.nodup).1
              have hS' : StOk c t G := ⟨hS.zero, fun p hp => hS.mem p (List.mem_cons_of_mem _ hp), (List.nodup_cons.1 hS.nodup).2, hS.new⟩
              have ih := iso_run m q xs (i + 1) G c t c' st' hG.step hS' hn hm hq'
              have hcl := hs_closed p xs (i + 1) G c t (by omega) hp.2 hpt (congrArg Option.isSome (show nstR xs c t = some (c', st') from hn))
              have h0 : surv m (rowI p G) = 0 := by
                unfold surv
                rw [List.filter_eq_nil_iff.2 (fun j hj => by rw [(hm j).2 ⟨p, by rw [hcl]; exact hj⟩]; decide)]
                rfl
              rw [stk_cons, h0]
              unfold isoR
              rw [if_neg (by rw [hf]; simp; omega), if_neg (by omega)]
              show (if true = x.1.f2 then _ else _) = _
              rw [if_pos hf.symm]
              exact ih
          · rename_i hc1 hc
            have ih := iso_run m q xs (i + 1) G c st c' st' hG.step hS hn hm hq'
            unfold isoR
            rw [if_pos (by omega)]
            exact ih
      · cases hn
    · -- a character
      have hf' : x.1.f2 = false := by simpa using hf
      simp only [nstR] at hn
      rw [if_neg hf] at hn
      split at hn
      · rename_i hz
        cases st with
        | nil =>
          have hz0 : x.2 = 0 := hz
          have hs1 : hs (x :: xs) i G = hs xs (i + 1) G := by simp only [hs]; rw [if_pos hz0]
          rw [hs1] at hm hq ⊢
          have ih := iso_run m q xs (i + 1) G c [] c' st' hG.step hS hn hm (fun j hj => hq j (by omega))
          unfold isoR
          rw [if_pos (.inr (.inr ⟨by split <;> exact hf', rfl⟩))]
          exact ih
        | cons p t =>
          have hz' : x.2 = p := hz
          have hp := hS.mem p (by simp)
          have hpt := (List.nodup_cons.1 hS.nodup).1
          have hx0 : ¬ x.2 = 0 := by omega
          have hst_ne : stk m G (p :: t) ≠ [] := by rw [stk_cons]; simp
          by_cases hc : clsOf x.1.f0 = 20 ∨ clsOf x.1.f0 = 21 ∨ clsOf x.1.f0 = 22
          · have hs1 : hs (x :: xs) i G = hs xs (i + 1) (putI p (rowI p G ++ [(i : Int)]) G) := by simp only [hs]; rw [if_neg hx0, if_pos hc, hz']
            rw [hs1] at hm hq ⊢
            have hS' : StOk c (p :: t) (putI p (rowI p G ++ [(i : Int)]) G) := ⟨hS.zero, hS.mem, hS.nodup, fun k hk => by rw [rowI_put, if_neg (by omega)]; exact hS.new k hk⟩
            have ih := iso_run m q xs (i + 1) _ c (p :: t) c' st' (hG.push p) hS' hn hm (fun j hj => hq j (by omega))
            have ht : stk m (putI p (rowI p G ++ [(i : Int)]) G) t = stk m G t := stk_congr m (fun k hk => by rw [rowI_put, if_neg (fun e : k = p => hpt (e ▸ hk))])
            have hr : surv m (rowI p (putI p (rowI p G ++ [(i : Int)]) G)) = surv m (rowI p G) + (if m i = true then 0 else 1) := by
              rw [rowI_put, if_pos rfl]
              unfold surv
              rw [List.filter_append, List.length_append]
              cases hmi : m (i : Int) <;> simp [hmi]
            rw [stk_cons, ht, hr] at ih
            cases hmi : m (i : Int)
            · have hqi : ¬ q (i : Int) = true := fun h => by
                rcases (hq i (Int.le_refl _)).1 h with h | h
                · rw [hmi] at h; cases h
                · exact hbad _ h
              rw [if_neg hqi, stk_cons]
              rw [hmi, if_neg (by decide), List.replicate_succ, List.cons_append] at ih
              unfold isoR
              rw [if_neg (by rw [hf']; simp; omega), if_pos (by omega), hf']
              exact ih
            · have hqi : q (i : Int) = true := (hq i (Int.le_refl _)).2 (.inl hmi)
              rw [if_pos hqi, stk_cons]
              rw [hmi, if_pos rfl, Nat.add_zero] at ih
              unfold isoR
              rw [if_pos (.inl (by show clsOf 65533 < 20; rw [cls_fffd]; decide))]
              exact ih
          · by_cases hc3 : clsOf x.1.f0 = 23
            · by_cases hl : 0 < (rowI p G).length
              · have hs1 : hs (x :: xs) i G = hs xs (i + 1) (putI p ((rowI p G).take ((rowI p G).length - 1)) G) := by simp only [hs]; rw [if_neg hx0, if_neg hc, if_pos hc3, hz', if_pos hl]
                rw [hs1] at hm hq ⊢
                obtain ⟨row, e, hrow⟩ : ∃ row e, rowI p G = row ++ [e] := by
                  rcases List.eq_nil_or_concat (rowI p G) with h | ⟨l, a, h⟩
                  · rw [h] at hl; exact absurd hl (by decide)
                  · exact ⟨l, a, by rw [h, List.concat_eq_append]⟩
                have htk : (rowI p G).take ((rowI p G).length - 1) = row := by rw [hrow]; simp
                rw [htk] at hm hq ⊢
                have hpop := hG.pop p
                rw [htk] at hpop
                have hnd := hG.nodup p
                rw [hrow] at hnd
                have he : e ∉ row := fun h => (List.nodup_append.1 hnd).2.2 e h e (by simp) rfl
                have hel := hG.lt p e (by rw [hrow]; simp)
                have hme : m e = false := by
                  cases hme : m e
                  · rfl
                  · obtain ⟨k, hk⟩ := (hm e).1 hme
                    rcases hs_old xs (i + 1) _ hpop k e hk with h | h
                    · rw [rowI_put] at h
                      split at h
                      · exact absurd h he
                      · rename_i hkp
                        exact absurd (hG.apart k p e h (by rw [hrow]; simp)) hkp
                    · omega
                have hS' : StOk c (p :: t) (putI p row G) := ⟨hS.zero, hS.mem, hS.nodup, fun k hk => by rw [rowI_put, if_neg (by omega)]; exact hS.new k hk⟩
                have ih := iso_run m q xs (i + 1) _ c (p :: t) c' st' hpop hS' hn hm (fun j hj => hq j (by omega))
                have ht : stk m (putI p row G) t = stk m G t := stk_congr m (fun k hk => by rw [rowI_put, if_neg (fun e : k = p => hpt (e ▸ hk))])
                have hr : surv m (rowI p G) = surv m row + 1 := by
                  rw [hrow]
                  unfold surv
                  rw [List.filter_append, List.length_append]
                  simp [hme]
                have hr' : rowI p (putI p row G) = row := by rw [rowI_put, if_pos rfl]
                rw [stk_cons, ht, hr'] at ih
                have hmi : m i = false := by
                  cases hmi : m (i : Int)
                  · rfl
                  · obtain ⟨k, hk⟩ := (hm i).1 hmi
                    refine absurd hk (hnew _ hpop (fun k' hk' => ?_) k)
                    rw [rowI_put] at hk'
                    split at hk'
                    · exact hiG p (by rw [hrow]; exact List.mem_append_left _ hk')
                    · exact hiG k' hk'
                have hqi : ¬ q (i : Int) = true := fun h => by
                  rcases (hq i (Int.le_refl _)).1 h with h | h
                  · rw [hmi] at h; cases h
                  · exact hbad _ h
                rw [if_neg hqi, stk_cons, hr, List.replicate_succ, List.cons_append]
                unfold isoR
                rw [if_neg (by rw [hf']; simp; omega), if_neg (by omega)]
                show (if false = x.1.f2 then _ else _) = _
                rw [if_pos hf'.symm]
                exact ih
              · have hs1 : hs (x :: xs) i G = ((hs xs (i + 1) G).1, (i : Int) :: (hs xs (i + 1) G).2) := by simp only [hs]; rw [if_neg hx0, if_neg hc, if_pos hc3, hz', if_neg hl]
                rw [hs1] at hm hq ⊢
                have ih := iso_run m q xs (i + 1) G c (p :: t) c' st' hG.step hS hn hm (fun j hj => by
                  rw [hq j (by omega)]
                  constructor
                  · rintro (h | h)
                    · exact .inl h
                    · rcases List.mem_cons.1 h with h | h
                      · omega
                      · exact .inr h
                  · rintro (h | h)
                    · exact .inl h
                    · exact .inr (List.mem_cons_of_mem _ h))
                have hqi : q (i : Int) = true := (hq i (Int.le_refl _)).2 (.inr (by simp))
                rw [if_pos hqi]
                unfold isoR
                rw [if_pos (.inl (by show clsOf 65533 < 20; rw [cls_fffd]; decide))]
                exact ih
            · have hs1 : hs (x :: xs) i G = hs xs (i + 1) G := by simp only [hs]; rw [if_neg hx0, if_neg hc, if_neg hc3]
              rw [hs1] at hm hq ⊢
              have ih := iso_run m q xs (i + 1) G c (p :: t) c' st' hG.step hS hn hm (fun j hj => hq j (by omega))
              have hmi : m i = false := by
                cases hmi : m (i : Int)
                · rfl
                · obtain ⟨k, hk⟩ := (hm i).1 hmi
                  exact absurd hk (hnew G hG.step hiG k)
              have hqi : ¬ q (i : Int) = true := fun h => by
                rcases (hq i (Int.le_refl _)).1 h with h | h
                · rw [hmi] at h; cases h
                · exact hbad G h
              rw [if_neg hqi]
              unfold isoR
              rw [if_pos (by omega)]
              exact ih
      · cases hn
end Go.Proofs.YtlfpjlpaiaonkaaDoor.Sp
namespace Go.Proofs.YtlfpjlpaiaonkaaDoor.Sp
open Go.RowKit Go.Proofs.YtlfpjlpaiaonkaaDoorW.PrintWords Go.Proofs.YtlfpjlpaiaonkaaDoorW.PrintLast Go.Proofs.YtlfpjlpaiaonkaaDoorW.PrintMore Go.Proofs.YtlfpjlpaiaonkaaDoorH Go.Proofs.YtlfpjlpaiaonkaaDoor.P Go.Proofs.YtlfpjlpaiaonkaaDoor.Mp
set_option linter.unusedVariables false
set_option linter.unusedSimpArgs false
/-! ### harden, by what it turns -/
def fixAll (L : List Pos) (bad : List Int) : List Pos := bad.foldl (fun L b => fixL L b.toNat) L
theorem fixL_get (L : List Pos) (i j : Nat) : (fixL L i)[j]? = (L[j]?).map fun p => if i = j then { p with f0 := 65533 } else p := by
  unfold fixL
  by_cases h : i = j
  · subst h
    by_cases hl : i < L.length
    · rw [List.getElem?_set_self hl, List.getD_eq_getElem?_getD, List.getElem?_eq_getElem hl]
      simp
    · rw [List.getElem?_eq_none (by simp; omega), List.getElem?_eq_none (by omega)]
      rfl
  · rw [List.getElem?_set_ne h]
    cases L[j]? <;> simp [h]
theorem fixAll_get : ∀ (bad : List Int) (L : List Pos) (j : Nat), (∀ b, b ∈ bad → 0 ≤ b) → (fixAll L bad)[j]? = (L[j]?).map fun p => if (j : Int) ∈ bad then { p with f0 := 65533 } else p
  | [], L, j, h => by
    show L[j]? = _
    cases L[j]? <;> simp
  | b :: bad, L, j, h => by
    have ih := fixAll_get bad (fixL L b.toNat) j (fun x hx => h x (List.mem_cons_of_mem _ hx))
    have hb := h b (by simp)
    show (fixAll (fixL L b.toNat) bad)[j]? = _
    rw [ih, fixL_get]
    cases L[j]? with
    | none => rfl
    | some p =>
      simp only [Option.map_some, List.mem_cons]
      by_cases h1 : b.toNat = j
      · have : (j : Int) = b ∨ (j : Int) ∈ bad := Or.inl (by omega)
        rw [if_pos h1, if_pos this]
        split <;> rfl
      · have : ¬ (j : Int) = b := by omega
        rw [if_neg h1]
        simp [this]
theorem fixAll_len (bad : List Int) : ∀ L : List Pos, (fixAll L bad).length = L.length := by
  induction bad with
  | nil => intro L; rfl
  | cons b bad ih => intro L; exact (ih (fixL L b.toNat)).trans (fixL_len _ _)
theorem hard1_hs (L0 : List Pos) (ps : List Int) (hl : ps.length = L0.length) : ∀ (n i : Nat) (G : List (Int × List Int)) (L : List Pos), n + i = L0.length → (∀ j, i ≤ j → L.getD j z41 = L0.getD j z41) →
    hard1 ps n i G L = ((hs ((L0.zip ps).drop i) i G).1, fixAll L (hs ((L0.zip ps).drop i) i G).2)
  | 0, i, G, L, hn, hL => by
    rw [List.drop_eq_nil_of_le (by rw [List.length_zip]; omega)]
    rfl
  | n + 1, i, G, L, hn, hL => by
    have hz : (L0.zip ps).drop i = (L0.getD i z41, ps.getD i 0) :: (L0.zip ps).drop (i + 1) := by
      rw [List.drop_eq_getElem_cons (by rw [List.length_zip]; omega), List.getElem_zip, List.getD_eq_getElem?_getD, List.getD_eq_getElem?_getD, List.getElem?_eq_getElem (by omega), List.getElem?_eq_getElem (by omega)]
      rfl
    have hL' : ∀ j, i + 1 ≤ j → L.getD j z41 = L0.getD j z41 := fun j hj => hL j (by omega)
    have hf : ∀ j, i + 1 ≤ j → (fixL L i).getD j z41 = L0.getD j z41 := fun j hj => by
      rw [← hL' j hj, List.getD_eq_getElem?_getD, List.getD_eq_getElem?_getD, fixL_get]
      cases L[j]? with
      | none => rfl
      | some p => simp only [Option.map_some]; rw [if_neg (by omega)]
    rw [hz]
    unfold hard1
    simp only [hs, hL i (Nat.le_refl _)]
    split
    · exact hard1_hs L0 ps hl n (i + 1) G L (by omega) hL'
    · split
      · exact hard1_hs L0 ps hl n (i + 1) _ L (by omega) hL'
      · split
        · split
          · exact hard1_hs L0 ps hl n (i + 1) _ L (by omega) hL'
          · rw [hard1_hs L0 ps hl n (i + 1) G (fixL L i) (by omega) hf]
            rfl
        · exact hard1_hs L0 ps hl n (i + 1) G L (by omega) hL'
theorem finL_get (q : Int → Bool) : ∀ (L : List Pos) (i j : Nat), (finL q L i)[j]? = (L[j]?).map fun p => if q ((i + j : Nat) : Int) = true then { p with f0 := 65533 } else p
  | [], i, j => by simp [finL]
  | x :: L, i, 0 => by simp [finL]
  | x :: L, i, j + 1 => by
    have := finL_get q L (i + 1) j
    simp only [finL, List.getElem?_cons_succ]
    rw [this, show i + 1 + j = i + (j + 1) by omega]
/-- What harden turns. -/
def hq (S : Sp) (j : Int) : Bool := decide (j ∈ (hs (S.L.zip S.pieces) 0 []).1.flatMap (·.2) ∨ j ∈ (hs (S.L.zip S.pieces) 0 []).2)
theorem harden_fin (S : Sp) (hl : S.pieces.length = S.L.length) : S.harden.L = finL (hq S) S.L 0 := by
  have h := hard1_hs S.L S.pieces hl S.L.length 0 [] S.L (by omega) (fun j _ => rfl)
  rw [List.drop_zero] at h
  show markL (hard1 S.pieces S.L.length 0 [] S.L).2 ((hard1 S.pieces S.L.length 0 [] S.L).1.flatMap (·.2)) = _
  rw [h]
  apply List.ext_getElem?
  intro j
  rw [markL_get, fixAll_get _ _ _ (fun b hb => by have := hs_bad _ _ _ b hb; omega), finL_get, Nat.zero_add]
  unfold hq
  generalize (hs (S.L.zip S.pieces) 0 []).1.flatMap (·.2) = F
  generalize (hs (S.L.zip S.pieces) 0 []).2 = B
  cases S.L[j]? with
  | none => rfl
  | some p =>
    simp only [Option.map_some, decide_eq_true_eq]
    by_cases h1 : (j : Int) ∈ F
    · rw [if_pos h1, if_pos (Or.inl h1 : (j : Int) ∈ F ∨ (j : Int) ∈ B)]
      split <;> rfl
    · rw [if_neg h1]
      by_cases h2 : (j : Int) ∈ B
      · rw [if_pos h2, if_pos (Or.inr h2 : (j : Int) ∈ F ∨ (j : Int) ∈ B)]
      · rw [if_neg h2, if_neg (fun h => h.elim h1 h2)]
theorem harden_iso (S : Sp) (hl : S.pieces.length = S.L.length) (c c' : Int) (h0 : 0 ≤ c) (h : nstR (S.L.zip S.pieces) c [] = some (c', [])) : isoR S.harden.L [] = some [] := by
  have hm : (S.L.zip S.pieces).map (·.1) = S.L := List.map_fst_zip (by omega)
  have hG := hs_ok (S.L.zip S.pieces) 0 [] GOk.nil
  have := iso_run (fun j => decide (j ∈ (hs (S.L.zip S.pieces) 0 []).1.flatMap (·.2))) (hq S) (S.L.zip S.pieces) 0 [] c [] c' [] GOk.nil ⟨h0, (fun p hp => absurd hp (by simp)), List.nodup_nil, (fun k _ => rfl)⟩ h
    (fun j => by rw [decide_eq_true_eq]; exact rowI_mem hG.uniq j) (fun j _ => by simp only [hq, decide_eq_true_eq])
  rw [hm] at this
  rw [harden_fin S hl]
  exact this
/-- Only places in a piece are turned. -/
theorem hs_piece : ∀ (xs : List Ev) (i : Nat) (G : List (Int × List Int)) (j : Int), (j ∈ (hs xs i G).2 ∨ ∃ k, j ∈ rowI k (hs xs i G).1) → (∃ k, j ∈ rowI k G) ∨ ∃ t x, xs[t]? = some x ∧ j = ((i + t : Nat) : Int) ∧ x.2 ≠ 0
  | [], i, G, j, h => by
    rcases h with h | h
    · cases h
    · exact .inl h
  | x :: xs, i, G, j, h => by
    have up : ∀ G', ((∃ k, j ∈ rowI k G') → (∃ k, j ∈ rowI k G) ∨ (j = (i : Int) ∧ x.2 ≠ 0)) → (j ∈ (hs xs (i + 1) G').2 ∨ ∃ k, j ∈ rowI k (hs xs (i + 1) G').1) → (∃ k, j ∈ rowI k G) ∨ ∃ t y, (x :: xs)[t]? = some y ∧ j = ((i + t : Nat) : Int) ∧ y.2 ≠ 0 := by
      intro G' hg hh
      rcases hs_piece xs (i + 1) G' j hh with h1 | ⟨t, y, h1, h2, h3⟩
      · rcases hg h1 with h2 | ⟨h2, h3⟩
        · exact .inl h2
        · exact .inr ⟨0, x, rfl, by simpa using h2, h3⟩
      · exact .inr ⟨t + 1, y, by simpa using h1, by rw [h2]; omega, h3⟩
    simp only [hs] at h
    split at h
    · exact up G (fun h => .inl h) h
    · rename_i hz
      split at h
      · refine up _ (fun ⟨k, hk⟩ => ?_) h
        rw [rowI_put] at hk
        split at hk
        · rcases List.mem_append.1 hk with h1 | h1
          · exact .inl ⟨_, h1⟩
          · exact .inr ⟨List.mem_singleton.1 h1, hz⟩
        · exact .inl ⟨k, hk⟩
      · split at h
        · split at h
          · refine up _ (fun ⟨k, hk⟩ => ?_) h
            rw [rowI_put] at hk
            split at hk
            · exact .inl ⟨_, List.mem_of_mem_take hk⟩
            · exact .inl ⟨k, hk⟩
          · rcases h with h | h
            · rcases List.mem_cons.1 h with h | h
              · exact .inr ⟨0, x, rfl, by simpa using h, hz⟩
              · exact up G (fun h => .inl h) (.inl h)
            · exact up G (fun h => .inl h) (.inr h)
        · exact up G (fun h => .inl h) h
theorem hq_piece (S : Sp) (hl : S.pieces.length = S.L.length) (j : Nat) (h : hq S (j : Int) = true) : j < S.pieces.length ∧ S.pieces.getD j 0 ≠ 0 := by
  have hG := hs_ok (S.L.zip S.pieces) 0 [] GOk.nil
  unfold hq at h
  rw [decide_eq_true_eq, rowI_mem hG.uniq] at h
  rcases hs_piece _ 0 [] (j : Int) h.symm with ⟨k, hk⟩ | ⟨t, x, h1, h2, h3⟩
  · simp [rowI, lookI] at hk
  · have : t = j := by omega
    subst this
    rw [List.getElem?_zip_eq_some] at h1
    obtain ⟨hlt, _⟩ := List.getElem?_eq_some_iff.1 h1.2
    exact ⟨hlt, by rw [List.getD_eq_getElem?_getD, h1.2]; exact h3⟩
/-! ### Balanced -/
def ctls (L : List Pos) : List Int := (L.filter (·.f2)).map (·.f0)
def balC : List Int → List Int → Option (List Int)
  | [], st => some st
  | r :: rs, st =>
    if (15 ≤ clsOf r ∧ clsOf r ≤ 18) ∨ (20 ≤ clsOf r ∧ clsOf r ≤ 22) then balC rs (clsOf r :: st)
    else if clsOf r = 19 ∨ clsOf r = 23 then (match st with | [] => none | t :: ts => if decide (20 ≤ t) = decide (clsOf r = 23) then balC rs ts else none)
    else balC rs st
theorem balC_app : ∀ (xs ys st : List Int), balC (xs ++ ys) st = (balC xs st).bind (balC ys)
  | [], ys, st => rfl
  | x :: xs, ys, st => by
    simp only [List.cons_append, balC]
    split
    · exact balC_app xs ys _
    · split
      · cases st with
        | nil => rfl
        | cons t ts =>
          show (if _ then _ else _) = Option.bind (if _ then _ else _) _
          split
          · exact balC_app xs ys _
          · rfl
      · exact balC_app xs ys _
def nstC : List Int → Int → List Int → Option (Int × List Int)
  | [], c, st => some (c, st)
  | r :: rs, c, st =>
    if clsOf r = 20 ∨ clsOf r = 21 ∨ clsOf r = 22 then nstC rs (c + 1) ((c + 1) :: st)
    else if clsOf r = 23 then (match st with | [] => none | _ :: t => nstC rs c t)
    else nstC rs c st
theorem nstC_R (item : Int) : ∀ (rs : List Int) (c : Int) (st : List Int), nstR ((rs.map fun r => (⟨r, item, true⟩ : Pos)).zip (rs.map fun _ => (0 : Int))) c st = nstC rs c st
  | [], c, st => rfl
  | r :: rs, c, st => by
    simp only [List.map_cons, List.zip_cons_cons, nstR, nstC, if_pos]
    split
    · exact nstC_R item rs _ _
    · split
      · cases st with
        | nil => rfl
        | cons s t => exact nstC_R item rs _ _
      · exact nstC_R item rs _ _
theorem cls_ctl : clsOf 0x202a = 15 ∧ clsOf 0x202b = 16 ∧ clsOf 0x202d = 17 ∧ clsOf 0x202e = 18 ∧ clsOf 0x202c = 19 ∧ clsOf 0x2066 = 20 ∧ clsOf 0x2067 = 21 ∧ clsOf 0x2068 = 22 ∧ clsOf 0x2069 = 23 := by
  refine ⟨?_, ?_, ?_, ?_, ?_, ?_, ?_, ?_, ?_⟩ <;> kernel_rfl
def acl (s : Sty) : List Int := ((ctlR s.f2 s.f1).1.map clsOf).reverse
theorem ahead_bal (b d : Int) (st : List Int) : balC (ctlR b d).1 st = some (((ctlR b d).1.map clsOf).reverse ++ st) := by
  obtain ⟨h1, h2, h3, h4, h5, h6, h7, h8, h9⟩ := cls_ctl
  unfold ctlR
  repeat' split
  all_goals simp [balC, h1, h2, h3, h4, h5, h6, h7, h8, h9]
theorem behind_bal (b d : Int) (st : List Int) : balC (ctlR b d).2 (((ctlR b d).1.map clsOf).reverse ++ st) = some st := by
  obtain ⟨h1, h2, h3, h4, h5, h6, h7, h8, h9⟩ := cls_ctl
  unfold ctlR
  repeat' split
  all_goals simp [balC, h1, h2, h3, h4, h5, h6, h7, h8, h9]
theorem ahead_nst (s : Sty) (c : Int) (st : List Int) : nstC (ctlR s.f2 s.f1).1 c st = some (if isoB s = true then (c + 1, (c + 1) :: st) else (c, st)) := by
  obtain ⟨h1, h2, h3, h4, h5, h6, h7, h8, h9⟩ := cls_ctl
  unfold ctlR isoB
  repeat' split
  all_goals simp_all [nstC]
theorem behind_nst (s : Sty) (c p : Int) (st : List Int) : nstC (ctlR s.f2 s.f1).2 c (if isoB s = true then p :: st else st) = some (c, st) := by
  obtain ⟨h1, h2, h3, h4, h5, h6, h7, h8, h9⟩ := cls_ctl
  unfold ctlR isoB
  repeat' split
  all_goals simp_all [nstC]
end Go.Proofs.YtlfpjlpaiaonkaaDoor.Sp
namespace Go.Proofs.YtlfpjlpaiaonkaaDoor.Sp
open Go.RowKit Go.Proofs.YtlfpjlpaiaonkaaDoorW.PrintWords Go.Proofs.YtlfpjlpaiaonkaaDoorW.PrintLast Go.Proofs.YtlfpjlpaiaonkaaDoorW.PrintMore Go.Proofs.YtlfpjlpaiaonkaaDoorH Go.Proofs.YtlfpjlpaiaonkaaDoor.P Go.Proofs.YtlfpjlpaiaonkaaDoor.Mp
set_option linter.unusedVariables false
set_option linter.unusedSimpArgs false
def chs (L : List Pos) : List Int := (L.filter (fun x => !x.f2)).map (·.f1)
/-- A paragraph under way: c is the last piece's number, bs the controls that stay open, st the open pieces, cs its characters' items; A holds of each character. -/
structure Run (A : Pos → Prop) (L : List Pos) (ps : List Int) (c : Int) (bs st cs : List Int) : Prop where
  len : ps.length = L.length
  bal : balC (ctls L) [] = some bs
  nst : ∃ c0, 0 ≤ c0 ∧ nstR (L.zip ps) c0 [] = some (c, st)
  chs : chs L = cs
  all : ∀ x, x ∈ L → x.f2 = false → A x
section
variable {A : Pos → Prop} {L : List Pos} {ps : List Int} {c : Int} {bs st cs : List Int}
theorem Run.nil (c : Int) (h : 0 ≤ c) : Run A [] [] c [] [] [] := ⟨rfl, rfl, ⟨c, h, rfl⟩, rfl, fun x hx => by cases hx⟩
theorem Run.put (h : Run A L ps c bs st cs) (rs : List Int) (item : Int) {bs' st' : List Int} {c' : Int} (hb : balC rs bs = some bs') (hn : nstC rs c st = some (c', st')) : Run A (L ++ rs.map fun r => ⟨r, item, true⟩) (ps ++ rs.map fun _ => 0) c' bs' st' cs := by
  have hc : ctls (rs.map fun r => (⟨r, item, true⟩ : Pos)) = rs := by
    unfold ctls
    rw [List.filter_eq_self.2 (fun x hx => by obtain ⟨r, _, rfl⟩ := List.mem_map.1 hx; rfl), List.map_map]
    exact List.map_id' rs
  have hk : Sp.chs (rs.map fun r => (⟨r, item, true⟩ : Pos)) = [] := by
    unfold Sp.chs
    rw [List.filter_eq_nil_iff.2 (fun x hx => by obtain ⟨r, _, rfl⟩ := List.mem_map.1 hx; simp)]
    rfl
  obtain ⟨c0, h0, hc0⟩ := h.nst
  refine ⟨by simp [h.len], ?_, ⟨c0, h0, ?_⟩, ?_, fun x hx hf => ?_⟩
  · have : ctls (L ++ rs.map fun r => (⟨r, item, true⟩ : Pos)) = ctls L ++ rs := by
      have h2 : ctls (L ++ rs.map fun r => (⟨r, item, true⟩ : Pos)) = ctls L ++ ctls (rs.map fun r => (⟨r, item, true⟩ : Pos)) := by
        unfold ctls
        rw [List.filter_append, List.map_append]
      rw [h2, hc]
    rw [this, balC_app, h.bal]
    exact hb
  · rw [List.zip_append h.len.symm, nstR_app, hc0]
    show nstR _ c st = _
    rw [nstC_R]
    exact hn
  · have : Sp.chs (L ++ rs.map fun r => (⟨r, item, true⟩ : Pos)) = Sp.chs L ++ Sp.chs (rs.map fun r => (⟨r, item, true⟩ : Pos)) := by simp [Sp.chs]
    rw [this, hk, h.chs, List.append_nil]
  · rcases List.mem_append.1 hx with hx | hx
    · exact h.all x hx hf
    · obtain ⟨r, _, rfl⟩ := List.mem_map.1 hx
      cases hf
theorem Run.chr (h : Run A L ps c bs st cs) (r item p : Int) (hp : p = st.headD 0) (hA : A ⟨r, item, false⟩) : Run A (L ++ [⟨r, item, false⟩]) (ps ++ [p]) c bs st (cs ++ [item]) := by
  obtain ⟨c0, h0, hc0⟩ := h.nst
  refine ⟨by simp [h.len], ?_, ⟨c0, h0, ?_⟩, ?_, fun x hx hf => ?_⟩
  · have : ctls (L ++ [(⟨r, item, false⟩ : Pos)]) = ctls L := by simp [ctls]
    rw [this]
    exact h.bal
  · rw [List.zip_append h.len.symm, nstR_app, hc0]
    show nstR [((⟨r, item, false⟩ : Pos), p)] c st = _
    simp only [nstR]
    rw [if_neg (by decide), if_pos hp]
  · have : Sp.chs (L ++ [(⟨r, item, false⟩ : Pos)]) = Sp.chs L ++ [item] := by simp [Sp.chs]
    rw [this, h.chs]
  · rcases List.mem_append.1 hx with hx | hx
    · exact h.all x hx hf
    · rw [List.mem_singleton.1 hx]
      exact hA
theorem Run.mono (h : Run A L ps c bs st cs) {B : Pos → Prop} (hb : ∀ x, A x → B x) : Run B L ps c bs st cs := ⟨h.len, h.bal, h.nst, h.chs, fun x hx hf => hb x (h.all x hx hf)⟩
end
/-! ### The open boxes, the innermost first -/
def bstO (os : List Opn) : List Int := os.flatMap fun o => acl o.f1
def stkO : List Opn → List Int
  | [] => []
  | o :: os => if isoB o.f1 = true then o.f2 :: stkO os else stkO os
def PcOk : List Opn → Prop
  | [] => True
  | o :: os => (isoB o.f1 = false → o.f2 = (stkO os).headD 0) ∧ PcOk os
def ovr (b : Sty) : List Int := if overB b = true then ((ctlR 3 b.f1).1.map clsOf).reverse else []
theorem inner_eq (S : Sp) (h : PcOk S.opn.reverse) : S.inner = (stkO S.opn.reverse).headD 0 := by
  unfold Sp.inner
  rcases List.eq_nil_or_concat S.opn with h0 | ⟨l, o, h0⟩
  · rw [h0]; rfl
  · rw [List.concat_eq_append] at h0
    rw [h0, List.reverse_append] at h
    have h1 : (S.opn.getD (S.opn.length - 1) z98) = o := by
      rw [h0, List.length_append, List.length_singleton, Nat.add_sub_cancel, List.getD_eq_getElem?_getD, List.getElem?_append_right (Nat.le_refl _), Nat.sub_self]
      rfl
    rw [if_neg (by rw [h0]; simp), h1, h0, List.reverse_append]
    show o.f2 = (stkO (o :: l.reverse)).headD 0
    unfold stkO
    split
    · rfl
    · rename_i hi
      exact h.1 (by simpa using hi)
theorem enter_run {A : Pos → Prop} {bs st cs : List Int} (S : Sp) (o : Opn) (outer : Int) (h : Run A S.L S.pieces S.count bs st cs) :
    Run A (S.enter o outer).1.L (S.enter o outer).1.pieces (S.enter o outer).1.count (acl o.f1 ++ bs) (if isoB o.f1 = true then (S.enter o outer).2 :: st else st) cs ∧ (isoB o.f1 = false → (S.enter o outer).2 = outer) ∧ (S.enter o outer).1.opn = S.opn := by
  have hp := h.put (ctlR o.f1.f2 o.f1.f1).1 o.f0 (ahead_bal o.f1.f2 o.f1.f1 bs) (ahead_nst o.f1 S.count st)
  unfold Sp.enter
  cases hi : isoB o.f1
  · rw [hi] at hp
    exact ⟨hp, fun _ => rfl, rfl⟩
  · rw [hi] at hp
    exact ⟨hp, fun h => (by cases h), rfl⟩
theorem enterFrom_run {A : Pos → Prop} {cs ov : List Int} : ∀ (m i : Nat) (outer : Int) (T : Sp), i + m = T.opn.length → Run A T.L T.pieces T.count (bstO (T.opn.take i).reverse ++ ov) (stkO (T.opn.take i).reverse) cs → PcOk (T.opn.take i).reverse → outer = (stkO (T.opn.take i).reverse).headD 0 →
    Run A (Sp.enterFrom m i outer T).L (Sp.enterFrom m i outer T).pieces (Sp.enterFrom m i outer T).count (bstO (Sp.enterFrom m i outer T).opn.reverse ++ ov) (stkO (Sp.enterFrom m i outer T).opn.reverse) cs ∧ PcOk (Sp.enterFrom m i outer T).opn.reverse
  | 0, i, outer, T, hi, hr, hp, ho => by
    rw [List.take_of_length_le (by omega)] at hr hp
    exact ⟨hr, hp⟩
  | m + 1, i, outer, T, hi, hr, hp, ho => by
    obtain ⟨o, hoo⟩ : ∃ o, T.opn.getD i z98 = o := ⟨_, rfl⟩
    obtain ⟨h1, h2, h3⟩ := enter_run T o outer hr
    obtain ⟨T1, hT1⟩ : ∃ T1 : Sp, { (T.enter o outer).1 with opn := (T.enter o outer).1.opn.set i { o with f2 := (T.enter o outer).2 } } = T1 := ⟨_, rfl⟩
    have he : Sp.enterFrom (m + 1) i outer T = Sp.enterFrom m (i + 1) (T.enter o outer).2 T1 := by rw [← hT1, ← hoo]; rfl
    have e1 : T1.opn = T.opn.set i { o with f2 := (T.enter o outer).2 } := by rw [← hT1, ← h3]
    have e2 : T1.L = (T.enter o outer).1.L := by rw [← hT1]
    have e3 : T1.pieces = (T.enter o outer).1.pieces := by rw [← hT1]
    have e4 : T1.count = (T.enter o outer).1.count := by rw [← hT1]
    have et : (T1.opn.take (i + 1)).reverse = { o with f2 := (T.enter o outer).2 } :: (T.opn.take i).reverse := by
      rw [e1, List.take_add_one, List.getElem?_set_self (by omega), List.reverse_append, List.take_set_of_le (Nat.le_refl i)]
      rfl
    rw [he]
    have hs : stkO ({ o with f2 := (T.enter o outer).2 } :: (T.opn.take i).reverse) = if isoB o.f1 = true then (T.enter o outer).2 :: stkO (T.opn.take i).reverse else stkO (T.opn.take i).reverse := rfl
    refine enterFrom_run m (i + 1) (T.enter o outer).2 T1 (by rw [e1, List.length_set]; omega) ?_ ?_ ?_
    · rw [et, e2, e3, e4, hs]
      have hb : bstO ({ o with f2 := (T.enter o outer).2 } :: (T.opn.take i).reverse) ++ ov = acl o.f1 ++ (bstO (T.opn.take i).reverse ++ ov) := by simp [bstO]
      rw [hb]
      exact h1
    · rw [et]
      exact ⟨fun hi' => by rw [← ho]; exact h2 hi', hp⟩
    · rw [et, hs]
      cases hi' : isoB o.f1
      · rw [if_neg (by decide), ← ho]
        exact h2 hi'
      · rfl
theorem over_bal (d : Int) : balC (ctlR 3 d).1 [] = some (((ctlR 3 d).1.map clsOf).reverse) := by rw [ahead_bal, List.append_nil]
theorem over_nst (d c : Int) (st : List Int) : nstC (ctlR 3 d).1 c st = some (c, st) := by
  have := ahead_nst ⟨0, d, 3, 0, 0, 0⟩ c st
  rw [this]
  rfl
theorem begin_run {A : Pos → Prop} (S : Sp) (hc : 0 ≤ S.count) : Run A S.begin_.L S.begin_.pieces S.begin_.count (bstO S.begin_.opn.reverse ++ ovr S.block) (stkO S.begin_.opn.reverse) [] ∧ PcOk S.begin_.opn.reverse := by
  rw [Sp.begin_eq]
  unfold ovr
  split
  · rename_i h
    have hr := (Run.nil (A := A) S.count hc).put (ctlR 3 S.block.f1).1 (-1) (over_bal S.block.f1) (over_nst S.block.f1 S.count [])
    exact enterFrom_run S.opn.length 0 0 (S.fresh.put (ctlR 3 S.block.f1).1 (-1)) (by simp [Sp.put, Sp.fresh]) hr trivial rfl
  · rename_i h
    exact enterFrom_run S.opn.length 0 0 S.fresh (by simp [Sp.fresh]) (Run.nil S.count hc) trivial rfl
/-- A box is shut: its controls behind. -/
theorem behind_run {A : Pos → Prop} {L : List Pos} {ps bs cs : List Int} {c : Int} (o : Opn) (os : List Opn) (item : Int) (h : Run A L ps c (bstO (o :: os) ++ bs) (stkO (o :: os)) cs) :
    Run A (L ++ (ctlR o.f1.f2 o.f1.f1).2.map fun r => ⟨r, item, true⟩) (ps ++ (ctlR o.f1.f2 o.f1.f1).2.map fun _ => 0) c (bstO os ++ bs) (stkO os) cs := by
  have hb : bstO (o :: os) ++ bs = acl o.f1 ++ (bstO os ++ bs) := by simp [bstO]
  rw [hb] at h
  exact h.put (ctlR o.f1.f2 o.f1.f1).2 item (behind_bal _ _ _) (by have := behind_nst o.f1 c o.f2 (stkO os); exact this)
theorem puts_run {A : Pos → Prop} {bs cs : List Int} (item : Int) : ∀ (os : List Opn) (S : Sp), Run A S.L S.pieces S.count (bstO os ++ bs) (stkO os) cs → Run A (S.puts os item).L (S.puts os item).pieces (S.puts os item).count bs [] cs
  | [], S, h => h
  | o :: os, S, h => puts_run item os (S.put (ctlR o.f1.f2 o.f1.f1).2 item) (behind_run o os item h)
theorem close_run {A : Pos → Prop} {cs : List Int} (S : Sp) (h : Run A S.L S.pieces S.count (ovr S.block) [] cs) : Run A S.close.L S.close.pieces S.close.count [] [] cs := by
  unfold Sp.close
  unfold ovr at h
  split
  · rename_i ho
    rw [if_pos ho] at h
    have hb : balC [0x202c] (((ctlR 3 S.block.f1).1.map clsOf).reverse) = some [] := by
      have := behind_bal 3 S.block.f1 []
      rw [List.append_nil] at this
      exact this
    exact h.put [0x202c] (-1) hb (by have := behind_nst ⟨0, S.block.f1, 3, 0, 0, 0⟩ S.count 0 []; exact this)
  · rename_i ho
    rw [if_neg ho] at h
    exact h
end Go.Proofs.YtlfpjlpaiaonkaaDoor.Sp
namespace Go.Proofs.YtlfpjlpaiaonkaaDoor.Sp
open Go.RowKit Go.Proofs.YtlfpjlpaiaonkaaDoorW.PrintWords Go.Proofs.YtlfpjlpaiaonkaaDoorW.PrintLast Go.Proofs.YtlfpjlpaiaonkaaDoorW.PrintMore Go.Proofs.YtlfpjlpaiaonkaaDoorH Go.Proofs.YtlfpjlpaiaonkaaDoor.P Go.Proofs.YtlfpjlpaiaonkaaDoor.Mp
set_option linter.unusedVariables false
set_option linter.unusedSimpArgs false
/-- The numbers of the characters among items, the first one's number being i. -/
def cfL : List Itm → Nat → List Int
  | [], _ => []
  | x :: xs, i => if x.f0 = 3 then (i : Int) :: cfL xs (i + 1) else cfL xs (i + 1)
theorem cfL_snoc (x : Itm) : ∀ (l : List Itm) (i : Nat), cfL (l ++ [x]) i = cfL l i ++ (if x.f0 = 3 then [((i + l.length : Nat) : Int)] else [])
  | [], i => by simp [cfL]
  | y :: l, i => by
    have := cfL_snoc x l (i + 1)
    simp only [List.cons_append, cfL, this, List.length_cons]
    rw [show i + 1 + l.length = i + (l.length + 1) by omega]
    split <;> rfl
/-- A character of a place: its item's, or U+FFFD. -/
def okc (items : List Itm) (h : Bool) (x : Pos) : Prop := x.f0 = (items.getD x.f1.toNat z47).f3 ∨ (h = true ∧ x.f0 = 65533)
def Ac (items : List Itm) (h : Bool) (x : Pos) : Prop := clsOf x.f0 ≠ 11 ∧ okc items h x
structure ParOk (h : Bool) (p : Par) : Prop where
  sep : ∀ k, k + 1 < p.f1.length → (p.f1.getD k z41).f2 = false → clsOf (p.f1.getD k z41).f0 ≠ 11
  fin : (0 < p.f1.length ∧ (p.f1.getD (p.f1.length - 1) z41).f2 = false ∧ clsOf (p.f1.getD (p.f1.length - 1) z41).f0 = 11) ∨
    (balC (ctls p.f1) [] = some [] ∧ (h = true → isoR p.f1 [] = some []) ∧ ∀ x, x ∈ p.f1 → x.f2 = false → clsOf x.f0 ≠ 11)
theorem finL_chs (q : Int → Bool) : ∀ (L : List Pos) (i : Nat), chs (finL q L i) = chs L
  | [], i => rfl
  | x :: L, i => by
    have ih := finL_chs q L (i + 1)
    unfold chs at ih ⊢
    simp only [finL]
    split <;> cases hx : x.f2 <;> simp [List.filter_cons, hx, ih]
theorem finL_ctls (q : Int → Bool) : ∀ (L : List Pos) (i : Nat), (∀ j x, L[j]? = some x → x.f2 = true → q ((i + j : Nat) : Int) = false) → ctls (finL q L i) = ctls L
  | [], i, h => rfl
  | x :: L, i, h => by
    have ih := finL_ctls q L (i + 1) (fun j y hy hf => by have := h (j + 1) y (by simpa using hy) hf; rwa [show i + 1 + j = i + (j + 1) by omega])
    unfold ctls at ih ⊢
    simp only [finL]
    cases hx : x.f2
    · split <;> simp [List.filter_cons, hx, ih]
    · have := h 0 x rfl hx
      rw [Nat.add_zero] at this
      rw [if_neg (by rw [this]; decide)]
      simp [List.filter_cons, hx, ih]
theorem finL_len (q : Int → Bool) : ∀ (L : List Pos) (i : Nat), (finL q L i).length = L.length
  | [], i => rfl
  | x :: L, i => by simp [finL, finL_len q L (i + 1)]
theorem finL_getD (q : Int → Bool) (L : List Pos) (k : Nat) (h : k < L.length) : (finL q L 0).getD k z41 = if q (k : Int) = true then { L.getD k z41 with f0 := 65533 } else L.getD k z41 := by
  rw [List.getD_eq_getElem?_getD, finL_get, Nat.zero_add, List.getD_eq_getElem?_getD, List.getElem?_eq_getElem h]
  rfl
theorem nst_ctl : ∀ (xs : List Ev) (c : Int) (st : List Int), (nstR xs c st).isSome = true → ∀ x, x ∈ xs → x.1.f2 = true → x.2 = 0
  | [], c, st, h, x, hx, hf => by cases hx
  | y :: xs, c, st, h, x, hx, hf => by
    simp only [nstR] at h
    rcases List.mem_cons.1 hx with rfl | hx
    · rw [if_pos hf] at h
      split at h
      · assumption
      · cases h
    · split at h
      · split at h
        · split at h
          · exact nst_ctl xs _ _ h x hx hf
          · split at h
            · cases st with
              | nil => cases h
              | cons s t => exact nst_ctl xs _ _ h x hx hf
            · exact nst_ctl xs _ _ h x hx hf
        · cases h
      · split at h
        · exact nst_ctl xs _ _ h x hx hf
        · cases h
theorem nst_ge : ∀ (xs : List Ev) (c : Int) (st : List Int) (c' : Int) (st' : List Int), nstR xs c st = some (c', st') → 0 ≤ c → (∀ p, p ∈ st → 1 ≤ p) → c ≤ c' ∧ ∀ p, p ∈ st' → 1 ≤ p
  | [], c, st, c', st', h, h0, hs => by
    simp only [nstR, Option.some.injEq, Prod.mk.injEq] at h
    rw [← h.1, ← h.2]
    exact ⟨Int.le_refl _, hs⟩
  | y :: xs, c, st, c', st', h, h0, hs => by
    simp only [nstR] at h
    split at h
    · split at h
      · split at h
        · obtain ⟨h1, h2⟩ := nst_ge xs _ _ _ _ h (by omega) (fun p hp => by
            rcases List.mem_cons.1 hp with hp | hp
            · omega
            · exact hs p hp)
          exact ⟨by omega, h2⟩
        · split at h
          · cases st with
            | nil => cases h
            | cons s t => exact nst_ge xs _ _ _ _ h h0 (fun p hp => hs p (List.mem_cons_of_mem _ hp))
          · exact nst_ge xs _ _ _ _ h h0 hs
      · cases h
    · split at h
      · exact nst_ge xs _ _ _ _ h h0 hs
      · cases h
theorem Run.ge {A : Pos → Prop} {L : List Pos} {ps bs st cs : List Int} {c : Int} (h : Run A L ps c bs st cs) : 0 ≤ c ∧ ∀ p, p ∈ st → 1 ≤ p := by
  obtain ⟨c0, h0, hn⟩ := h.nst
  obtain ⟨h1, h2⟩ := nst_ge _ _ _ _ _ hn h0 (fun p hp => by cases hp)
  exact ⟨by omega, h2⟩
/-- What end puts out. -/
def Sp.fL (S : Sp) : List Pos := if S.hard = true then S.harden.L else S.L
theorem end_out (S : Sp) : S.end_.out = S.out ++ [⟨S.base, S.fL, S.brk⟩] := by
  unfold Sp.end_ Sp.fL
  split <;> rfl
theorem fL_fin (S : Sp) (hl : S.pieces.length = S.L.length) : S.fL = finL (fun j => S.hard && hq S j) S.L 0 := by
  unfold Sp.fL
  split
  · rename_i h
    rw [harden_fin S hl, h]
    rfl
  · rename_i h
    have : S.hard = false := by simpa using h
    rw [this]
    apply List.ext_getElem?
    intro j
    rw [finL_get]
    cases S.L[j]? <;> simp
theorem fL_chs (S : Sp) (hl : S.pieces.length = S.L.length) : chs S.fL = chs S.L := by rw [fL_fin S hl, finL_chs]
theorem fL_okc {items : List Itm} (S : Sp) (hl : S.pieces.length = S.L.length) (h : ∀ x, x ∈ S.L → x.f2 = false → okc items S.hard x) : ∀ x, x ∈ S.fL → x.f2 = false → okc items S.hard x := by
  intro x hx hf
  rw [fL_fin S hl] at hx
  obtain ⟨j, hj, he⟩ := List.getElem_of_mem hx
  have hj' : j < S.L.length := by rw [finL_len] at hj; exact hj
  have h1 := finL_get (fun j => S.hard && hq S j) S.L 0 j
  rw [List.getElem?_eq_getElem hj, List.getElem?_eq_getElem hj', he] at h1
  simp only [Option.map_some, Option.some.injEq] at h1
  have hm := h S.L[j] (List.getElem_mem _)
  split at h1
  · rename_i hq
    simp only [Bool.and_eq_true] at hq
    rw [h1]
    exact .inr ⟨hq.1, rfl⟩
  · rw [h1]
    exact hm (by rw [← h1]; exact hf)
theorem fL_plain (S : Sp) (hl : S.pieces.length = S.L.length) (n : Nat) (h : ∀ k, k < n → k < S.L.length → (S.L.getD k z41).f2 = false → clsOf (S.L.getD k z41).f0 ≠ 11) : ∀ k, k < n → k < S.fL.length → (S.fL.getD k z41).f2 = false → clsOf (S.fL.getD k z41).f0 ≠ 11 := by
  intro k hk hkl hf
  rw [fL_fin S hl] at hkl hf ⊢
  rw [finL_len] at hkl
  rw [finL_getD _ _ _ hkl] at hf ⊢
  split
  · show clsOf 65533 ≠ 11
    rw [cls_fffd]
    decide
  · rename_i hq
    rw [if_neg hq] at hf
    exact h k hk hkl hf
theorem fL_ctls {A : Pos → Prop} {bs st cs : List Int} {c : Int} (S : Sp) (h : Run A S.L S.pieces c bs st cs) : ctls S.fL = ctls S.L := by
  rw [fL_fin S h.len]
  refine finL_ctls _ _ _ (fun j x hx hf => ?_)
  obtain ⟨c0, h0, hn⟩ := h.nst
  rw [Nat.zero_add]
  cases hq' : hq S (j : Int)
  · simp
  · exfalso
    obtain ⟨h1, h2⟩ := hq_piece S h.len j hq'
    refine h2 ?_
    have := nst_ctl _ _ _ (by rw [hn]; rfl) (x, S.pieces.getD j 0) (by
      rw [List.mem_iff_getElem?]
      refine ⟨j, ?_⟩
      rw [List.getElem?_zip_eq_some]
      exact ⟨hx, by rw [List.getD_eq_getElem?_getD, List.getElem?_eq_getElem h1]; rfl⟩) hf
    exact this
/-- A paragraph that a break or the flow's end ended. -/
theorem par_done {items : List Itm} {cs : List Int} (S : Sp) (h : Run (Ac items S.hard) S.L S.pieces S.count [] [] cs) : ParOk S.hard ⟨S.base, S.fL, S.brk⟩ := by
  have hall : ∀ k, k < S.L.length → (S.L.getD k z41).f2 = false → clsOf (S.L.getD k z41).f0 ≠ 11 := fun k hk hf => by
    refine (h.all _ ?_ hf).1
    rw [List.getD_eq_getElem?_getD, List.getElem?_eq_getElem hk]
    exact List.getElem_mem _
  have hp := fL_plain S h.len S.fL.length (fun k _ hk hf => hall k hk hf)
  refine ⟨fun k hk hf => hp k (by exact Nat.lt_of_succ_lt hk) (by exact Nat.lt_of_succ_lt hk) hf, .inr ⟨?_, fun hh => ?_, fun x hx hf => ?_⟩⟩
  · show balC (ctls S.fL) [] = some []
    rw [fL_ctls S h]
    exact h.bal
  · obtain ⟨c0, h0, hn⟩ := h.nst
    have := harden_iso S h.len c0 S.count h0 hn
    show isoR S.fL [] = some []
    unfold Sp.fL
    rw [if_pos hh]
    exact this
  · obtain ⟨j, hj, he⟩ := List.getElem_of_mem hx
    have := hp j hj hj
    rw [List.getD_eq_getElem?_getD, List.getElem?_eq_getElem hj] at this
    simp only [Option.getD_some, he] at this
    exact this hf
/-- A paragraph that a separator ended. -/
theorem par_ended {A : Pos → Prop} {bs st cs : List Int} (S : Sp) (r item p : Int) (L : List Pos) (ps : List Int) (hL : S.L = L ++ [⟨r, item, false⟩]) (hps : S.pieces = ps ++ [p]) (hr : clsOf r = 11) (hp : S.hard = true → p = 0) (hlen : ps.length = L.length) (hA : ∀ x, x ∈ L → x.f2 = false → clsOf x.f0 ≠ 11) : ParOk S.hard ⟨S.base, S.fL, S.brk⟩ := by
  have hl : S.pieces.length = S.L.length := by rw [hL, hps]; simp [hlen]
  have hll : S.L.length = L.length + 1 := by rw [hL]; simp
  have hfl : S.fL.length = L.length + 1 := by rw [fL_fin S hl, finL_len, hll]
  have hlast : S.fL.getD L.length z41 = ⟨r, item, false⟩ := by
    rw [fL_fin S hl, finL_getD _ _ _ (by omega)]
    have h1 : S.L.getD L.length z41 = ⟨r, item, false⟩ := by
      rw [hL, List.getD_eq_getElem?_getD, List.getElem?_append_right (Nat.le_refl _), Nat.sub_self]
      rfl
    rw [h1, if_neg]
    intro hq'
    simp only [Bool.and_eq_true] at hq'
    obtain ⟨h2, h3⟩ := hq_piece S hl L.length hq'.2
    refine h3 ?_
    rw [hps, List.getD_eq_getElem?_getD, List.getElem?_append_right (by omega), show L.length - ps.length = 0 by omega]
    exact hp hq'.1
  have hs := fL_plain S hl L.length (fun k hk hkl hf => by
    have h1 : S.L.getD k z41 = L.getD k z41 := by rw [hL, List.getD_eq_getElem?_getD, List.getElem?_append_left hk, List.getD_eq_getElem?_getD]
    rw [h1] at hf ⊢
    refine hA _ ?_ hf
    rw [List.getD_eq_getElem?_getD, List.getElem?_eq_getElem hk]
    exact List.getElem_mem _)
  refine ⟨fun k hk hf => ?_, .inl ?_⟩
  · have hk' : k + 1 < S.fL.length := hk
    exact hs k (by omega) (by omega) hf
  · show 0 < S.fL.length ∧ (S.fL.getD (S.fL.length - 1) z41).f2 = false ∧ clsOf (S.fL.getD (S.fL.length - 1) z41).f0 = 11
    rw [hfl, Nat.add_sub_cancel, hlast]
    exact ⟨by omega, rfl, hr⟩
/-- After the items l. -/
structure Gen (items : List Itm) (b : Sty) (h : Bool) (l : List Itm) (S : Sp) : Prop where
  blk : S.block = b
  hard : S.hard = h
  run : Run (Ac items h) S.L S.pieces S.count (bstO S.opn.reverse ++ ovr b) (stkO S.opn.reverse) (chs S.L)
  pc : PcOk S.opn.reverse
  outs : ∀ p, p ∈ S.out → ParOk h p ∧ ∀ x, x ∈ p.f1 → x.f2 = false → okc items h x
  chars : chs (S.out.flatMap (·.f1)) ++ chs S.L = cfL l 0
  idle : S.started = false → chs S.L = []
theorem chs_app (L M : List Pos) : chs (L ++ M) = chs L ++ chs M := by simp [chs]
theorem chs_put (L : List Pos) (rs : List Int) (item : Int) : chs (L ++ rs.map fun r => ⟨r, item, true⟩) = chs L := by
  rw [chs_app]
  have : chs (rs.map fun r => (⟨r, item, true⟩ : Pos)) = [] := by
    unfold chs
    rw [List.filter_eq_nil_iff.2 (fun x hx => by obtain ⟨r, _, rfl⟩ := List.mem_map.1 hx; simp)]
    rfl
  rw [this, List.append_nil]
/-- A new paragraph behind one that is put out. -/
theorem gen_begin {items : List Itm} {b : Sty} {h : Bool} {l : List Itm} (T : Sp) (hb : T.block = b) (hh : T.hard = h) (hc : 0 ≤ T.count) (ho : ∀ p, p ∈ T.out → ParOk h p ∧ ∀ x, x ∈ p.f1 → x.f2 = false → okc items h x) (hch : chs (T.out.flatMap (·.f1)) = cfL l 0) : Gen items b h l T.begin_ := by
  obtain ⟨h1, h2⟩ := begin_run (A := Ac items h) T hc
  obtain ⟨a1, a2, -, -, -, -⟩ := begin_parts T
  have hcs := h1.chs
  refine ⟨a1.blk.trans hb, a1.hard.trans hh, ?_, h2, by rw [a2]; exact ho, by rw [a2, hcs, List.append_nil]; exact hch, fun _ => hcs⟩
  rw [hb] at h1
  rw [hcs]
  exact h1
theorem end_parts (S : Sp) : S.end_.opn = S.opn ∧ S.end_.block = S.block ∧ S.end_.hard = S.hard ∧ S.end_.count = S.count := by
  unfold Sp.end_
  split <;> exact ⟨rfl, rfl, rfl, rfl⟩
theorem outs_flat (out : List Par) (p : Par) : chs ((out ++ [p]).flatMap (·.f1)) = chs (out.flatMap (·.f1)) ++ chs p.f1 := by
  rw [List.flatMap_append, chs_app]
  simp
theorem gen_open {items : List Itm} {b : Sty} {h : Bool} {l : List Itm} {S : Sp} (hg : Gen items b h l S) (x : Itm) (hx : x.f0 = 1) : Gen items b h (l ++ [x]) (S.item x (l.length : Int)) := by
  have hi : S.item x (l.length : Int) = S.open_ x (l.length : Int) := by unfold Sp.item; rw [if_pos hx]
  rw [hi]
  obtain ⟨o, ho⟩ : ∃ o : Opn, o = ⟨(l.length : Int), S.styles.getD x.f1.toNat z52, 0⟩ := ⟨_, rfl⟩
  obtain ⟨h1, h2, h3⟩ := enter_run S o S.inner hg.run
  obtain ⟨e1, e2, e3, e4, e5⟩ := enter_like S o S.inner
  have hT : S.open_ x (l.length : Int) = { (S.enter o S.inner).1 with opn := S.opn ++ [{ o with f2 := (S.enter o S.inner).2 }], started := true } := by rw [ho]; rfl
  rw [hT]
  have hrev : (S.opn ++ [{ o with f2 := (S.enter o S.inner).2 }]).reverse = { o with f2 := (S.enter o S.inner).2 } :: S.opn.reverse := by simp
  refine ⟨e2.trans hg.blk, e3.trans hg.hard, ?_, ?_, by show ∀ p, p ∈ (S.enter o S.inner).1.out → _; rw [e4]; exact hg.outs, ?_, fun hs => by cases hs⟩
  · show Run _ (S.enter o S.inner).1.L (S.enter o S.inner).1.pieces (S.enter o S.inner).1.count (bstO (S.opn ++ [{ o with f2 := (S.enter o S.inner).2 }]).reverse ++ ovr b) (stkO (S.opn ++ [{ o with f2 := (S.enter o S.inner).2 }]).reverse) (chs (S.enter o S.inner).1.L)
    rw [hrev, h1.chs]
    have hb : bstO ({ o with f2 := (S.enter o S.inner).2 } :: S.opn.reverse) ++ ovr b = acl o.f1 ++ (bstO S.opn.reverse ++ ovr b) := by simp [bstO]
    rw [hb]
    exact h1
  · show PcOk (S.opn ++ [{ o with f2 := (S.enter o S.inner).2 }]).reverse
    rw [hrev]
    exact ⟨fun hi' => by rw [← inner_eq S hg.pc]; exact h2 hi', hg.pc⟩
  · show chs ((S.enter o S.inner).1.out.flatMap (·.f1)) ++ chs (S.enter o S.inner).1.L = _
    rw [e4, h1.chs, hg.chars, cfL_snoc, if_neg (by omega), List.append_nil]
theorem gen_shut {items : List Itm} {b : Sty} {h : Bool} {l : List Itm} {S : Sp} (hg : Gen items b h l S) (x : Itm) (hx : x.f0 = 2) (hn : 0 < S.opn.length) : Gen items b h (l ++ [x]) (S.item x (l.length : Int)) := by
  have hi : S.item x (l.length : Int) = S.shut (l.length : Int) := by unfold Sp.item; rw [if_neg (by omega), if_pos hx]
  rw [hi]
  rcases List.eq_nil_or_concat S.opn with h0 | ⟨os, o, h0⟩
  · rw [h0] at hn; exact absurd hn (by decide)
  rw [List.concat_eq_append] at h0
  have hl : S.opn.getD (S.opn.length - 1) z98 = o := by
    rw [h0, List.length_append, List.length_singleton, Nat.add_sub_cancel, List.getD_eq_getElem?_getD, List.getElem?_append_right (Nat.le_refl _), Nat.sub_self]
    rfl
  have ht : S.opn.take (S.opn.length - 1) = os := by rw [h0]; simp
  have hrev : S.opn.reverse = o :: os.reverse := by rw [h0]; simp
  have hT : S.shut (l.length : Int) = { S.put (ctlR o.f1.f2 o.f1.f1).2 (l.length : Int) with opn := os, started := true } := by unfold Sp.shut; simp only [hl, ht]
  rw [hT]
  have hr := hg.run
  rw [hrev] at hr
  have h1 := behind_run o os.reverse (l.length : Int) hr
  have hpc := hg.pc
  rw [hrev] at hpc
  refine ⟨hg.blk, hg.hard, ?_, hpc.2, hg.outs, ?_, fun hs => by cases hs⟩
  · show Run _ (S.L ++ _) (S.pieces ++ _) S.count _ _ (chs (S.L ++ _))
    rw [chs_put]
    exact h1
  · show chs (S.out.flatMap (·.f1)) ++ chs (S.L ++ _) = _
    rw [chs_put, hg.chars, cfL_snoc, if_neg (by omega), List.append_nil]
theorem gen_char {items : List Itm} {b : Sty} {h : Bool} {l : List Itm} {S : Sp} (hg : Gen items b h l S) (x : Itm) (hx : x.f0 = 3) (hit : items.getD l.length z47 = x) : Gen items b h (l ++ [x]) (S.item x (l.length : Int)) := by
  have hi : S.item x (l.length : Int) = S.char x.f3 (l.length : Int) := by unfold Sp.item; rw [if_neg (by omega), if_neg (by omega), if_pos hx]
  rw [hi]
  have hin := inner_eq S hg.pc
  have hge := hg.run.ge
  have hok : ∀ r, (r = x.f3 ∨ (h = true ∧ r = 65533)) → okc items h ⟨r, (l.length : Int), false⟩ := fun r hr => by
    unfold okc
    simp only [Int.toNat_natCast, hit]
    exact hr
  have hcs : ∀ r, chs (S.L ++ [(⟨r, (l.length : Int), false⟩ : Pos)]) = chs S.L ++ [(l.length : Int)] := fun r => by simp [chs]
  have hadd : ∀ r, (clsOf r ≠ 11) → (r = x.f3 ∨ (h = true ∧ r = 65533)) → Gen items b h (l ++ [x]) (S.add r (l.length : Int)) := fun r hr ho => by
    refine ⟨hg.blk, hg.hard, ?_, hg.pc, hg.outs, ?_, fun hs => by cases hs⟩
    · show Run _ (S.L ++ [_]) (S.pieces ++ [_]) S.count _ _ (chs (S.L ++ [_]))
      rw [hcs]
      exact hg.run.chr r (l.length : Int) S.inner hin ⟨hr, hok r ho⟩
    · show chs (S.out.flatMap (·.f1)) ++ chs (S.L ++ [_]) = _
      rw [hcs, ← List.append_assoc, hg.chars, cfL_snoc, if_pos hx, Nat.zero_add]
  unfold Sp.char
  split
  · rename_i hc
    split
    · rename_i hh
      exact hadd 65533 (by rw [cls_fffd]; decide) (.inr ⟨hg.hard ▸ hh.1, rfl⟩)
    · rename_i hh
      obtain ⟨p1, p2, p3, p4⟩ := end_parts (S.add x.f3 (l.length : Int))
      have hlen : (S.add x.f3 (l.length : Int)).pieces.length = (S.add x.f3 (l.length : Int)).L.length := by
        show (S.pieces ++ [_]).length = (S.L ++ [_]).length
        simp [hg.run.len]
      have hz : S.hard = true → S.inner = 0 := fun ht => by
        have h1 : ¬ 0 < S.inner := fun h => hh ⟨ht, h⟩
        cases hst : stkO S.opn.reverse with
        | nil => rw [hin, hst]; rfl
        | cons p t =>
          rw [hst] at hin
          have := hge.2 p (by rw [hst]; simp)
          have : S.inner = p := hin
          omega
      have hpar := par_ended (A := fun _ => True) (bs := []) (st := []) (cs := []) (S.add x.f3 (l.length : Int)) x.f3 (l.length : Int) S.inner S.L S.pieces rfl rfl hc hz hg.run.len (fun y hy hf => (hg.run.all y hy hf).1)
      have hoo := end_out (S.add x.f3 (l.length : Int))
      have hok2 := fL_okc (items := items) (S.add x.f3 (l.length : Int)) hlen (fun y hy hf => by
        have hy' : y ∈ S.L ++ [(⟨x.f3, (l.length : Int), false⟩ : Pos)] := hy
        show okc items S.hard y
        rw [hg.hard]
        rcases List.mem_append.1 hy' with hy' | hy'
        · exact (hg.run.all y hy' hf).2
        · rw [List.mem_singleton.1 hy']
          exact hok x.f3 (.inl rfl))
      have hard' : (S.add x.f3 (l.length : Int)).hard = h := hg.hard
      rw [hard'] at hpar hok2
      refine gen_begin (S.add x.f3 (l.length : Int)).end_ (p2.trans hg.blk) (p3.trans hg.hard) (by rw [p4]; exact hge.1) (fun p hp => ?_) ?_
      · rw [hoo] at hp
        rcases List.mem_append.1 hp with hp | hp
        · exact hg.outs p hp
        · rw [List.mem_singleton.1 hp]
          exact ⟨hpar, hok2⟩
      · rw [hoo, outs_flat]
        show chs (S.out.flatMap (·.f1)) ++ chs (S.add x.f3 (l.length : Int)).fL = _
        rw [fL_chs _ hlen]
        show chs (S.out.flatMap (·.f1)) ++ chs (S.L ++ [_]) = _
        rw [hcs, ← List.append_assoc, hg.chars, cfL_snoc, if_pos hx, Nat.zero_add]
  · rename_i hc
    exact hadd x.f3 hc (.inl rfl)
theorem close_parts' (S : Sp) : S.close.out = S.out ∧ S.close.block = S.block ∧ S.close.hard = S.hard ∧ S.close.count = S.count ∧ chs S.close.L = chs S.L := by
  unfold Sp.close
  split
  · exact ⟨rfl, rfl, rfl, rfl, chs_put _ _ _⟩
  · exact ⟨rfl, rfl, rfl, rfl, rfl⟩
theorem puts_parts' (item : Int) : ∀ (os : List Opn) (S : Sp), (S.puts os item).out = S.out ∧ (S.puts os item).block = S.block ∧ (S.puts os item).hard = S.hard ∧ (S.puts os item).count = S.count ∧ chs (S.puts os item).L = chs S.L
  | [], S => ⟨rfl, rfl, rfl, rfl, rfl⟩
  | o :: os, S => by
    obtain ⟨h1, h2, h3, h4, h5⟩ := puts_parts' item os (S.put (ctlR o.f1.f2 o.f1.f1).2 item)
    exact ⟨h1, h2, h3, h4, h5.trans (chs_put _ _ _)⟩
/-- A paragraph whose boxes are all closed is put out. -/
theorem gen_out {items : List Itm} {b : Sty} {h : Bool} {l l' : List Itm} {S : Sp} (hg : Gen items b h l S) (T : Sp) (hr : Run (Ac items h) T.L T.pieces T.count [] [] (chs T.L)) (hh : T.hard = h) (ho : T.out = S.out) (hc : chs T.L = chs S.L) (hl : cfL l' 0 = cfL l 0) :
    (∀ p, p ∈ T.end_.out → ParOk h p ∧ ∀ x, x ∈ p.f1 → x.f2 = false → okc items h x) ∧ chs (T.end_.out.flatMap (·.f1)) = cfL l' 0 := by
  subst hh
  have hpar := par_done T hr
  have hok := fL_okc (items := items) T hr.len (fun y hy hf => (hr.all y hy hf).2)
  rw [end_out T, ho]
  refine ⟨fun p hp => ?_, ?_⟩
  · rcases List.mem_append.1 hp with hp | hp
    · exact hg.outs p hp
    · rw [List.mem_singleton.1 hp]
      exact ⟨hpar, hok⟩
  · rw [outs_flat]
    show _ ++ chs T.fL = _
    rw [fL_chs T hr.len, hc, hg.chars, hl]
theorem gen_brk {items : List Itm} {b : Sty} {h : Bool} {l : List Itm} {S : Sp} (hg : Gen items b h l S) (x : Itm) (hx : x.f0 = 4) : Gen items b h (l ++ [x]) (S.item x (l.length : Int)) := by
  have hi : S.item x (l.length : Int) = S.brkAll (l.length : Int) := by unfold Sp.item; rw [if_neg (by omega), if_neg (by omega), if_neg (by omega)]
  rw [hi]
  unfold Sp.brkAll
  obtain ⟨p1, p2, p3, p4, p5⟩ := puts_parts' (l.length : Int) S.opn.reverse S
  obtain ⟨c1, c2, c3, c4, c5⟩ := close_parts' (S.puts S.opn.reverse (l.length : Int))
  have h1 := puts_run (l.length : Int) S.opn.reverse S hg.run
  have h2 := close_run (S.puts S.opn.reverse (l.length : Int)) (by rw [p2, hg.blk]; exact h1)
  obtain ⟨T, hT⟩ : ∃ T : Sp, { (S.puts S.opn.reverse (l.length : Int)).close with brk := (l.length : Int) } = T := ⟨_, rfl⟩
  rw [hT]
  have t1 : T.out = S.out := by rw [← hT]; exact c1.trans p1
  have t2 : T.block = b := by rw [← hT]; exact (c2.trans p2).trans hg.blk
  have t3 : T.hard = h := by rw [← hT]; exact (c3.trans p3).trans hg.hard
  have t4 : chs T.L = chs S.L := by rw [← hT]; exact c5.trans p5
  have hr : Run (Ac items h) T.L T.pieces T.count [] [] (chs T.L) := by rw [t4, ← hT]; exact h2
  obtain ⟨o1, o2⟩ := gen_out hg T hr t3 t1 t4 (l' := l ++ [x]) (by rw [cfL_snoc, if_neg (by omega), List.append_nil])
  obtain ⟨q1, q2, q3, q4⟩ := end_parts T
  exact gen_begin T.end_ (q2.trans t2) (q3.trans t3) (by rw [q4]; exact hr.ge.1) o1 o2
/-- What Split answers. -/
structure Keeps (items : List Itm) (h : Bool) (P : List Par) : Prop where
  par : ∀ p, p ∈ P → ParOk h p ∧ ∀ x, x ∈ p.f1 → x.f2 = false → okc items h x
  chars : chs (P.flatMap (·.f1)) = cfL items 0
theorem gen_fin {items : List Itm} {b : Sty} {h : Bool} {S : Sp} (hg : Gen items b h items S) (hn : S.opn.length = 0) : Keeps items h S.fin.out := by
  have hopn : S.opn = [] := List.eq_nil_of_length_eq_zero hn
  unfold Sp.fin
  split
  · obtain ⟨c1, c2, c3, c4, c5⟩ := close_parts' S
    have hr := hg.run
    rw [hopn] at hr
    have h2 := close_run S (by rw [hg.blk]; exact hr)
    obtain ⟨o1, o2⟩ := gen_out hg S.close (by rw [c5]; exact h2) (c3.trans hg.hard) c1 c5 (l' := items) rfl
    exact ⟨o1, o2⟩
  · rename_i hs
    have h0 : S.started = false := by simpa using fun h => hs (.inl h)
    have := hg.chars
    rw [hg.idle h0, List.append_nil] at this
    exact ⟨hg.outs, this⟩
theorem gen_run {items : List Itm} {b : Sty} {h : Bool} (n : Int) : ∀ (m l : List Itm) (S : Sp) (op : List Int), items = l ++ m → Gen items b h l S → runR n m op = true → op.length = S.opn.length → Keeps items h (runI m (l.length : Int) S).fin.out
  | [], l, S, op, he, hg, hr, ho => by
    rw [List.append_nil] at he
    subst he
    have : op = [] := by simpa [runR] using hr
    refine gen_fin hg ?_
    show S.opn.length = 0
    rw [← ho, this]
    rfl
  | x :: m, l, S, op, he, hg, hr, ho => by
    have hx : (x :: m).getD 0 z47 = x := rfl
    obtain ⟨⟨k1, k2, k3, k4⟩, k5, op', k6, k7⟩ := runR_ok n (x :: m) 0 op (by simp) x hx hr
    have hlen := item_len S x (l.length : Int)
    have hit : items.getD l.length z47 = x := by
      rw [he, List.getD_eq_getElem?_getD, List.getElem?_append_right (Nat.le_refl _), Nat.sub_self]
      rfl
    have hg' : Gen items b h (l ++ [x]) (S.item x (l.length : Int)) := by
      by_cases h1 : x.f0 = 1
      · exact gen_open hg x h1
      · by_cases h2 : x.f0 = 2
        · exact gen_shut hg x h2 (by rw [← ho]; exact k5 h2)
        · by_cases h3 : x.f0 = 3
          · exact gen_char hg x h3 hit
          · exact gen_brk hg x (by omega)
    have := gen_run n m (l ++ [x]) (S.item x (l.length : Int)) op' (by rw [he]; simp) hg' (by simpa using k6) (by rw [k7, hlen, ho])
    rw [show ((l ++ [x]).length : Int) = (l.length : Int) + 1 by simp] at this
    exact this
theorem split_keeps (block : Int) (items : List Itm) (st : List Sty) (hard : Bool) (h : (split block items st hard).2 = 0) : Keeps items hard (split block items st hard).1 := by
  unfold split at h ⊢
  split at h
  · cases h
  · rename_i hr
    split at h
    · cases h
    · rename_i ht
      rw [if_neg hr, if_neg ht]
      have hr' : runR st.length items [] = true := by
        unfold rightB at hr
        split at hr
        · exact absurd rfl hr
        · simpa using hr
      obtain ⟨S0, hS0⟩ : ∃ S0, Sp.start st (st.getD block.toNat z52) hard = S0 := ⟨_, rfl⟩
      have hg : Gen items (st.getD block.toNat z52) hard [] S0.begin_ := by
        rw [← hS0]
        exact gen_begin _ rfl rfl (Int.le_refl 0) (fun p hp => by cases hp) rfl
      have hl : S0.begin_.opn.length = 0 := by rw [(begin_parts S0).1.len, ← hS0]; rfl
      have := gen_run (st.length : Int) items [] S0.begin_ [] rfl hg hr' (by rw [hl]; rfl)
      show Keeps items hard (splitS block items st hard).out
      unfold splitS
      rw [hS0]
      exact this
end Go.Proofs.YtlfpjlpaiaonkaaDoor.Sp
namespace Go.Proofs.YtlfpjlpaiaonkaaDoor.Sp
open Go.RowKit Go.Proofs.YtlfpjlpaiaonkaaDoorW.PrintWords Go.Proofs.YtlfpjlpaiaonkaaDoorW.PrintLast Go.Proofs.YtlfpjlpaiaonkaaDoorW.PrintMore Go.Proofs.YtlfpjlpaiaonkaaDoorH Go.Proofs.YtlfpjlpaiaonkaaDoor.P Go.Proofs.YtlfpjlpaiaonkaaDoor.Mp
set_option linter.unusedVariables false
set_option linter.unusedSimpArgs false
theorem rd_pos (L : List Pos) (i : Nat) : rd_T41 L (i : Int) = L.getD i z41 := rfl
theorem ctls_drop (L : List Pos) (i : Nat) (h : i < L.length) : ctls (L.drop i) = if (L.getD i z41).f2 = true then (L.getD i z41).f0 :: ctls (L.drop (i + 1)) else ctls (L.drop (i + 1)) := by
  rw [List.drop_eq_getElem_cons h, List.getD_eq_getElem?_getD, List.getElem?_eq_getElem h]
  show ctls (L[i] :: L.drop (i + 1)) = if L[i].f2 = true then L[i].f0 :: _ else _
  generalize L.drop (i + 1) = M
  generalize L[i] = x
  unfold ctls
  cases hf : x.f2 <;> simp [List.filter_cons, hf]
theorem wrap_pos (n : Nat) (h : n ≤ 1000000000) (h0 : 0 < n) : wrap64 ((n : Int) - 1) = ((n - 1 : Nat) : Int) := by unfold wrap64; omega
theorem wrap_succ (n : Nat) (h : n ≤ 1000000000) : wrap64 ((n : Int) + 1) = ((n + 1 : Nat) : Int) := by unfold wrap64; omega
theorem rd_last (ts : List Int) (t : Int) : rd (ts ++ [t]) ((ts.length : Nat) : Int) = t := by
  show (ts ++ [t]).getD ((ts.length : Int)).toNat 0 = t
  rw [Int.toNat_natCast, List.getD_eq_getElem?_getD, List.getElem?_append_right (Nat.le_refl _), Nat.sub_self]
  rfl
theorem rdb_last (ts : List Bool) (t : Bool) : rdOf false (ts ++ [t]) ((ts.length : Nat) : Int) = t := by
  show (ts ++ [t]).getD ((ts.length : Int)).toNat false = t
  rw [Int.toNat_natCast, List.getD_eq_getElem?_getD, List.getElem?_append_right (Nat.le_refl _), Nat.sub_self]
  rfl
theorem bal_l0 (L : List Pos) (hL : L.length ≤ 900000000) : ∀ (d i k : Nat) (st : List Int), i ≤ L.length → L.length - i = d → st.length ≤ i → 3 * d + 204 ≤ k → balC (ctls (L.drop i)) st = some [] → selvedgelaw13_balanced.l0 k L st.reverse (i : Int) = some true := by
  intro d
  induction d with
  | zero =>
    intro i k st hi hd hs hk hb
    obtain ⟨k, rfl⟩ : ∃ m, k = m + 1 := ⟨k - 1, by omega⟩
    rw [List.drop_eq_nil_of_le (by omega)] at hb
    have h0 : st = [] := Option.some.inj hb
    subst h0
    simp only [selvedgelaw13_balanced.l0]
    rw [if_neg (by omega)]
    rfl
  | succ d ih =>
    intro i k st hi hd hs hk hb
    obtain ⟨k, rfl⟩ : ∃ m, k = m + 3 := ⟨k - 3, by omega⟩
    have hlt : i < L.length := by omega
    rw [ctls_drop L i hlt] at hb
    have hw := wrap_succ i (by omega)
    simp only [selvedgelaw13_balanced.l0]
    rw [if_pos (by omega), if_pos (by omega), rd_pos]
    obtain ⟨x, hx⟩ : ∃ x, L.getD i z41 = x := ⟨_, rfl⟩
    rw [hx] at hb ⊢
    by_cases hf : x.f2 = true
    · rw [if_pos hf] at hb ⊢
      rw [ref_Class x.f0 (k + 2) (by omega)]
      simp only [Option.bind_some, balC] at hb ⊢
      obtain ⟨c, hc⟩ : ∃ c, clsOf x.f0 = c := ⟨_, rfl⟩
      rw [hc] at hb ⊢
      have push : ((15 ≤ c ∧ c ≤ 18) ∨ (20 ≤ c ∧ c ≤ 22)) → ∀ a, selvedgelaw13_balanced.j1 (k + 2) L st.reverse (i : Int) c a true = some true := by
        intro h a
        rw [if_pos h] at hb
        simp only [selvedgelaw13_balanced.j1]
        rw [if_pos trivial, if_pos (by rw [List.length_reverse]; omega), hw]
        have := ih (i + 1) (k + 1) (c :: st) (by omega) (by omega) (by simp; omega) (by omega) hb
        rw [List.reverse_cons] at this
        exact this
      by_cases h1 : c = 15
      · rw [if_pos h1, show (c == 15) = true by simp [h1]]; exact push (by omega) _
      · by_cases h2 : c = 16
        · rw [if_neg h1, if_pos h2, show (c == 16) = true by simp [h2]]; exact push (by omega) _
        · by_cases h3 : c = 17
          · rw [if_neg h1, if_neg h2, if_pos h3, show (c == 17) = true by simp [h3]]; exact push (by omega) _
          · by_cases h4 : c = 18
            · rw [if_neg h1, if_neg h2, if_neg h3, if_pos h4, show (c == 18) = true by simp [h4]]; exact push (by omega) _
            · by_cases h5 : c = 20
              · rw [if_neg h1, if_neg h2, if_neg h3, if_neg h4, if_pos h5, show (c == 20) = true by simp [h5]]; exact push (by omega) _
              · by_cases h6 : c = 21
                · rw [if_neg h1, if_neg h2, if_neg h3, if_neg h4, if_neg h5, if_pos h6, show (c == 21) = true by simp [h6]]; exact push (by omega) _
                · rw [if_neg h1, if_neg h2, if_neg h3, if_neg h4, if_neg h5, if_neg h6]
                  by_cases h7 : c = 22
                  · rw [show (c == 22) = true by simp [h7]]; exact push (by omega) _
                  · rw [show (c == 22) = false by simpa using h7]
                    rw [if_neg (by omega)] at hb
                    have pop : (c = 19 ∨ c = 23) → selvedgelaw13_balanced.j2 (k + 1) L st.reverse (i : Int) c true = some true := by
                      intro h
                      rw [if_pos h] at hb
                      cases st with
                      | nil => cases hb
                      | cons t ts =>
                        have hb' : (if decide (20 ≤ t) = decide (c = 23) then balC (ctls (L.drop (i + 1))) ts else none) = some [] := hb
                        split at hb'
                        · rename_i he
                          have hsl : ts.length + 1 ≤ i := hs
                          have hlen : ((t :: ts).reverse).length = ts.length + 1 := by simp
                          simp only [selvedgelaw13_balanced.j2]
                          rw [if_pos trivial, hlen, wrap_pos (ts.length + 1) (by omega) (by omega), Nat.add_sub_cancel, List.reverse_cons]
                          have hrd : rd (ts.reverse ++ [t]) (ts.length : Int) = t := by
                            have := rd_last ts.reverse t
                            rwa [List.length_reverse] at this
                          rw [if_neg (by omega), if_pos (by omega), if_pos (by omega), hrd, if_neg (by
                            have e1 : (c == 23) = decide (c = 23) := by simp [Bool.beq_eq_decide_eq]
                            rw [e1, show decide (t ≥ 20) = decide (20 ≤ t) from rfl, he]
                            simp), if_pos (by omega), hw]
                          have htk : (ts.reverse ++ [t]).take ((ts.length : Int)).toNat = ts.reverse := by rw [Int.toNat_natCast, List.take_append_of_le_length (by simp), List.take_of_length_le (by simp)]
                          rw [htk]
                          exact ih (i + 1) k ts (by omega) (by omega) (by omega) (by omega) hb'
                        · cases hb'
                    simp only [selvedgelaw13_balanced.j1]
                    rw [if_neg (by decide)]
                    by_cases h8 : c = 19
                    · rw [if_pos h8, show (c == 19) = true by simp [h8]]
                      exact pop (.inl h8)
                    · rw [if_neg h8]
                      by_cases h9 : c = 23
                      · rw [show (c == 23) = true by simp [h9]]
                        exact pop (.inr h9)
                      · rw [show (c == 23) = false by simpa using h9]
                        rw [if_neg (by omega)] at hb
                        simp only [selvedgelaw13_balanced.j2]
                        rw [if_neg (by decide), hw]
                        exact ih (i + 1) k st (by omega) (by omega) (by omega) (by omega) hb
    · rw [if_neg hf] at hb ⊢
      rw [hw]
      exact ih (i + 1) (k + 2) st (by omega) (by omega) (by omega) (by omega) hb
theorem balanced_calls (A : Option Addr) (c : Nat) (L : List Pos) (w : World) (hr : Kd.C kPos w A L.length L) (hc : L.length ≤ c) (hL : L.length ≤ 900000000) (hb : balC (ctls L) [] = some []) :
    Calls Tryd.prog 17 #[.slice A L.length c] w fun e w' => e = .returned (.bool true) ∧ Below w.heap.size w w' :=
  selvedgelaw13_balanced.calls (3 * L.length + 204) A c L true w hr hc (bal_l0 L hL L.length 0 _ [] (Nat.zero_le _) (by omega) (Nat.le_refl _) (Nat.le_refl _) hb)
theorem iso_l0 (L : List Pos) (hL : L.length ≤ 900000000) : ∀ (d i k : Nat) (st : List Bool), i ≤ L.length → L.length - i = d → st.length ≤ i → 2 * d + 204 ≤ k → isoR (L.drop i) st = some [] → selvedgelaw13_isolated.l0 k L st.reverse (i : Int) = some true := by
  intro d
  induction d with
  | zero =>
    intro i k st hi hd hs hk hb
    obtain ⟨k, rfl⟩ : ∃ m, k = m + 1 := ⟨k - 1, by omega⟩
    rw [List.drop_eq_nil_of_le (by omega)] at hb
    have h0 : st = [] := Option.some.inj hb
    subst h0
    simp only [selvedgelaw13_isolated.l0]
    rw [if_neg (by omega)]
    rfl
  | succ d ih =>
    intro i k st hi hd hs hk hb
    obtain ⟨k, rfl⟩ : ∃ m, k = m + 2 := ⟨k - 2, by omega⟩
    have hlt : i < L.length := by omega
    have hw := wrap_succ i (by omega)
    obtain ⟨x, hx⟩ : ∃ x, L.getD i z41 = x := ⟨_, rfl⟩
    have hdr : L.drop i = x :: L.drop (i + 1) := by
      rw [List.drop_eq_getElem_cons hlt, ← hx, List.getD_eq_getElem?_getD, List.getElem?_eq_getElem hlt]
      rfl
    rw [hdr] at hb
    simp only [selvedgelaw13_isolated.l0]
    rw [if_pos (by omega), if_pos (by omega), rd_pos, hx, ref_Class x.f0 (k + 1) (by omega)]
    simp only [Option.bind_some, isoR] at hb ⊢
    obtain ⟨c, hc⟩ : ∃ c, clsOf x.f0 = c := ⟨_, rfl⟩
    rw [hc] at hb ⊢
    have skip : (c < 20 ∨ 23 < c ∨ (x.f2 = false ∧ st = [])) → selvedgelaw13_isolated.j1 (k + 1) L st.reverse (i : Int) c true = some true := by
      intro h
      rw [if_pos h] at hb
      simp only [selvedgelaw13_isolated.j1]
      rw [if_pos trivial, hw]
      exact ih (i + 1) k st (by omega) (by omega) (by omega) (by omega) hb
    have keep : ¬ (c < 20 ∨ 23 < c ∨ (x.f2 = false ∧ st = [])) → selvedgelaw13_isolated.j1 (k + 1) L st.reverse (i : Int) c false = some true := by
      intro h
      rw [if_neg h] at hb
      simp only [selvedgelaw13_isolated.j1]
      rw [if_neg (by decide)]
      by_cases h3 : c = 23
      · rw [if_neg (by simp [h3])] at hb
        rw [if_pos h3]
        cases st with
        | nil => cases hb
        | cons t ts =>
          have hb' : (if t = x.f2 then isoR (L.drop (i + 1)) ts else none) = some [] := hb
          split at hb'
          · rename_i he
            have hsl : ts.length + 1 ≤ i := hs
            have hlen : ((t :: ts).reverse).length = ts.length + 1 := by simp
            rw [hlen, wrap_pos (ts.length + 1) (by omega) (by omega), Nat.add_sub_cancel, List.reverse_cons]
            have hrd : rdOf false (ts.reverse ++ [t]) (ts.length : Int) = t := by
              have := rdb_last ts.reverse t
              rwa [List.length_reverse] at this
            rw [if_neg (by omega), if_pos (by omega), if_pos (by omega), if_pos (by omega), if_pos (by omega), hrd, rd_pos, hx, if_neg (by rw [he]; simp), if_pos (by omega), hw]
            have htk : (ts.reverse ++ [t]).take ((ts.length : Int)).toNat = ts.reverse := by rw [Int.toNat_natCast, List.take_append_of_le_length (by simp), List.take_of_length_le (by simp)]
            rw [htk]
            exact ih (i + 1) k ts (by omega) (by omega) (by omega) (by omega) hb'
          · cases hb'
      · rw [if_pos h3] at hb
        rw [if_neg h3, if_pos (by omega), if_pos (by omega), if_pos (by rw [List.length_reverse]; omega), rd_pos, hx, hw]
        have := ih (i + 1) k (x.f2 :: st) (by omega) (by omega) (by simp; omega) (by omega) hb
        rw [List.reverse_cons] at this
        exact this
    by_cases h1 : c < 20
    · rw [if_pos h1]; exact skip (.inl h1)
    · rw [if_neg h1]
      by_cases h2 : c > 23
      · rw [if_pos h2]; exact skip (.inr (.inl h2))
      · rw [if_neg h2]
        by_cases hf : x.f2 = true
        · rw [if_pos hf]
          exact keep (by rw [hf]; simp; omega)
        · rw [if_neg hf]
          have hf' : x.f2 = false := by simpa using hf
          cases st with
          | nil => exact skip (.inr (.inr ⟨hf', rfl⟩))
          | cons t ts =>
            rw [show ((((t :: ts).reverse).length : Int) == 0) = false by simp; omega]
            exact keep (by simp; omega)
theorem isolated_calls (A : Option Addr) (c : Nat) (L : List Pos) (w : World) (hr : Kd.C kPos w A L.length L) (hc : L.length ≤ c) (hL : L.length ≤ 900000000) (hb : isoR L [] = some []) :
    Calls Tryd.prog 18 #[.slice A L.length c] w fun e w' => e = .returned (.bool true) ∧ Below w.heap.size w w' :=
  selvedgelaw13_isolated.calls (2 * L.length + 204) A c L true w hr hc (iso_l0 L hL L.length 0 _ [] (Nat.zero_le _) (by omega) (Nat.le_refl _) (Nat.le_refl _) hb)
end Go.Proofs.YtlfpjlpaiaonkaaDoor.Sp
namespace Go.Proofs.YtlfpjlpaiaonkaaDoor.Sp
open Go.RowKit Go.Proofs.YtlfpjlpaiaonkaaDoorW.PrintWords Go.Proofs.YtlfpjlpaiaonkaaDoorW.PrintLast Go.Proofs.YtlfpjlpaiaonkaaDoorW.PrintMore Go.Proofs.YtlfpjlpaiaonkaaDoorH Go.Proofs.YtlfpjlpaiaonkaaDoor.P Go.Proofs.YtlfpjlpaiaonkaaDoor.Mp
attribute [local go_sem] max2_int min2_int max_two min_two max_three min_three max_four min_four
set_option linter.unusedVariables false
set_option linter.unusedSimpArgs false
theorem kclass_calls (r : Int) (w : World) : Calls Tryd.prog 16 #[.int .i32 r] w fun e w' => e = .returned (.int .u8 (clsOf r)) ∧ Below w.heap.size w w' :=
  selvedgeref01_Class.calls 200 r (clsOf r) w (ref_Class r 200 (Nat.le_refl _))
/-! ### Plain -/
theorem fine_run {st : List Sty} {b : Sty} {h : Bool} (n : Int) (hn : n = st.length) : ∀ (m : List Itm) (i : Int) (q : Nat) (S : Sp) (op : List Int), Fine st b h q S → runR n m op = true → (runI m i S).out.length ≤ q + m.length
  | [], i, q, S, op, hf, hr => hf.out
  | x :: m, i, q, S, op, hf, hr => by
    obtain ⟨⟨k1, k2, k3, k4⟩, k5, op', k6, k7⟩ := runR_ok n (x :: m) 0 op (by simp) x rfl hr
    have := fine_run n hn m (i + 1) (q + 1) (S.item x i) op' (fine_item hf x i (fun _ => ⟨k1, by omega⟩)) (by simpa using k6)
    simp only [runI, List.length_cons]
    omega
theorem split_short (block : Int) (items : List Itm) (st : List Sty) (hard : Bool) (h : (split block items st hard).2 = 0) : (split block items st hard).1.length ≤ items.length + 1 ∧ ∀ p, p ∈ (split block items st hard).1 → p.f1.length ≤ 65536 := by
  unfold split at h ⊢
  split at h
  · cases h
  · rename_i hr
    split at h
    · cases h
    · rename_i ht
      rw [if_neg hr, if_neg ht]
      have hr' : runR st.length items [] = true := by
        unfold rightB at hr
        split at hr
        · exact absurd rfl hr
        · simpa using hr
      refine ⟨?_, fun p hp => ?_⟩
      · show (splitS block items st hard).out.length ≤ _
        unfold splitS Sp.fin
        have := fine_run (st.length : Int) rfl items 0 0 (Sp.start st (st.getD block.toNat z52) hard).begin_ [] (fine_start _ _ _) hr'
        split
        · rw [end_out, (close_parts' _).1, List.length_append]
          show _ + 1 ≤ _
          omega
        · omega
      · have ht' : ¬ tooLong (splitS block items st hard).out = true := ht
        unfold tooLong at ht'
        by_cases hl : p.f1.length ≤ 65536
        · exact hl
        · exact absurd (List.any_eq_true.2 ⟨p, hp, decide_eq_true (by omega)⟩) ht'
theorem split_none (block : Int) (items : List Itm) (st : List Sty) (hard : Bool) : (split block items st hard).2 ≠ 0 → (split block items st hard).1 = [] := by
  unfold split
  split
  · exact fun _ => rfl
  · split
    · exact fun _ => rfl
    · exact fun h => absurd rfl h
def cfA (items : List Itm) (a : Nat) : List Int := cfL (items.drop a) a
theorem cfA_step (items : List Itm) (a : Nat) (h : a < items.length) : cfA items a = if (items.getD a z47).f0 = 3 then (a : Int) :: cfA items (a + 1) else cfA items (a + 1) := by
  unfold cfA
  rw [List.drop_eq_getElem_cons h, List.getD_eq_getElem?_getD, List.getElem?_eq_getElem h]
  rfl
theorem cfA_end (items : List Itm) (a : Nat) (h : items.length ≤ a) : cfA items a = [] := by
  unfold cfA
  rw [List.drop_eq_nil_of_le h]
  rfl
theorem chs_drop (L : List Pos) (k : Nat) (h : k < L.length) : chs (L.drop k) = if (L.getD k z41).f2 = true then chs (L.drop (k + 1)) else (L.getD k z41).f1 :: chs (L.drop (k + 1)) := by
  rw [List.drop_eq_getElem_cons h, List.getD_eq_getElem?_getD, List.getElem?_eq_getElem h]
  show chs (L[k] :: L.drop (k + 1)) = if L[k].f2 = true then _ else L[k].f1 :: _
  generalize L.drop (k + 1) = M
  generalize L[k] = x
  unfold chs
  cases hf : x.f2 <;> simp [List.filter_cons, hf]
theorem chs_flat (P : List Par) (i : Nat) (h : i < P.length) : chs ((P.drop i).flatMap (·.f1)) = chs (P.getD i z39).f1 ++ chs ((P.drop (i + 1)).flatMap (·.f1)) := by
  rw [List.drop_eq_getElem_cons h, List.getD_eq_getElem?_getD, List.getElem?_eq_getElem h, List.flatMap_cons, chs_app]
  rfl
theorem balN (A : Option Addr) (c : Nat) (L : List Pos) {n : Nat} (hn : L.length = n) (w : World) (hr : Kd.C kPos w A L.length L) (hc : L.length ≤ c) (hL : L.length ≤ 900000000) (hb : balC (ctls L) [] = some []) :
    Calls Tryd.prog 17 #[.slice A n c] w fun e w' => e = .returned (.bool true) ∧ Below w.heap.size w w' := by
  subst hn
  exact balanced_calls A c L w hr hc hL hb
theorem isoN (A : Option Addr) (c : Nat) (L : List Pos) {n : Nat} (hn : L.length = n) (w : World) (hr : Kd.C kPos w A L.length L) (hc : L.length ≤ c) (hL : L.length ≤ 900000000) (hb : isoR L [] = some []) :
    Calls Tryd.prog 18 #[.slice A n c] w fun e w' => e = .returned (.bool true) ∧ Below w.heap.size w w' := by
  subst hn
  exact isolated_calls A c L w hr hc hL hb
def keeps.T18 : Bool × List (List Nat × List Nat) := (true, [([], []), ([], []), ([1], [1]), ([2], [2]), ([0, 3], [0, 3]), ([4], [4]), ([5], [5]), ([6, 5], [5, 6]), ([5], [5]), ([7, 8, 5], [5, 7, 8]), ([5, 9], [5, 9]), ([10, 5], [10]), ([11], [11]), ([12, 11], [11, 12]), ([11], [11]), ([14, 11], [11, 14]), ([11], [11]), ([15, 16, 11], [11, 15, 16]), ([17, 11], [11, 17]), ([18, 11], [11, 18]), ([13, 19, 11], [11, 13, 19]), ([20, 11, 11], [11, 20]), ([21], [21]), ([22, 21, 21], [21, 22]), ([23], [23]), ([24, 23], [23, 24]), ([25, 23], [23, 25]), ([23, 26, 21], [21, 23, 26]), ([27, 21], [21, 27]), ([21, 28, 11], [11, 21, 28]), ([11, 29], [11, 29])])
def keeps.B18 : List Nat := [0, 0, 2, 6, 15, 31, 63, 127, 63, 511, 1023, 2047, 4095, 8191, 4095, 20479, 4095, 118783, 249855, 511999, 1048575, 2097151, 4194303, 8388607, 16777215, 33554431, 67108863, 134217727, 268435455, 536870911, 1073741823]
theorem keeps.tab18 : rtab .any (opsOf Tryd.f5 18) = keeps.T18 := by kernel_rfl
theorem keeps.bits18 : waitsOk keeps.T18.2 keeps.B18 = true := by kernel_rfl
set_option maxHeartbeats 16000000 in
set_option maxRecDepth 100000 in
theorem keeps_calls (block : Int) (AI A : Option Addr) (cI c : Nat) (items : List Itm) (st : List Sty) (hard : Bool) (w : World) (hI : Kd.C kItm w AI items.length items) (hcI : items.length ≤ cI) (hS : Kd.C kSty w A st.length st) (hc : st.length ≤ c) (hu : ∀ s, s ∈ st → u8 s.f1 ∧ u8 s.f2) (hG : LaidW w) :
    Calls Tryd.prog 5 #[.agg #[.int .i64 block, .slice AI items.length cI], .slice A st.length c, .bool hard] w fun e w' => e = .returned (.bool true) ∧ Below w.heap.size w w' := by
  have HB := Aside0.mk (Below.refl w.heap.size w)
  have HI := Aside0.mk hI
  have HCI := Aside0.mk hcI
  have HS := Aside0.mk hS
  have HC := Aside0.mk hc
  have HU := Aside0.mk hu
  have HG := Aside0.mk hG
  have HWK := Aside0.mk (show selvedgelaw13_works.f = some true from rfl)
  clear hI hcI hS hc hu hG
  by_cases h1 : 600 < items.length
  · have k1 : decide (600 < (items.length : Int)) = true := decide_eq_true (by omega)
    have k1b : decide (600 < items.length) = true := decide_eq_true (by omega)
    clear h1
    go_enter Tryd.func5, Tryd.ntmps5
    go_wp2_with (first | ((with_reducible refine gate_dst (N := 3) rfl ?_); (try (refine gate_guard (by rfl) ?_; dsimp only)); refine box_event ?hg (N := 3) ?hd (cs := #[.int .i64 block, .slice AI items.length cI]) (t := 24) ?hr ?_; (case hd => rfl); (case hg => rfl); (case hr => first | (go_simp; done) | (go_simp; rfl)); intro gb hgb w3 hbox hb; have Kb := Aside0.mk hbox; have GEb := Aside0.mk (Nat.le_of_eq hgb.symm : w.heap.size ≤ gb); have n0_ := Aside0.mk (below_step HB.out hb); clear HB; have HB := n0_; clear n0_ hbox hb hgb; have q0 : w3.cell? ⟨gb, 0, none⟩ = some (.int .i64 block) := (blk_cell Kb.out 0).trans rfl; have q1 : w3.cell? ⟨gb, 1, none⟩ = some (.slice AI items.length cI) := (blk_cell Kb.out 1).trans rfl) | (go_at_call 9; refine (selvedgelaw13_works.calls true _ HWK.out (HG.out.below (by repeat (first | (with_reducible first | exact HB.out | apply below_alloc | apply pw_below_drewN | apply below_drew1 | refine below_set ?_ GEb.out) | exact HB.out)))).mono ?_; rintro e wk ⟨rfl, hb⟩; have n0_ := Aside0.mk (below_step (by repeat (first | (with_reducible first | exact HB.out | apply below_alloc | apply pw_below_drewN | apply below_drew1 | refine below_set ?_ GEb.out) | exact HB.out)) hb); clear HB; have HB := n0_; clear n0_ hb))
    go_ret
    exact ⟨rfl, (by repeat (first | (with_reducible first | exact HB.out | apply below_alloc | apply pw_below_drewN | apply below_drew1 | refine below_set ?_ GEb.out) | exact HB.out))⟩
  · have k1 : decide (600 < (items.length : Int)) = false := decide_eq_false (by omega)
    have k1b : decide (600 < items.length) = false := decide_eq_false (by omega)
    by_cases h2 : 300 < st.length
    · have k2 : decide (300 < (st.length : Int)) = true := decide_eq_true (by omega)
      have k2b : decide (300 < st.length) = true := decide_eq_true (by omega)
      clear h1 h2
      go_enter Tryd.func5, Tryd.ntmps5
      go_wp2_with (first | ((with_reducible refine gate_dst (N := 3) rfl ?_); (try (refine gate_guard (by rfl) ?_; dsimp only)); refine box_event ?hg (N := 3) ?hd (cs := #[.int .i64 block, .slice AI items.length cI]) (t := 24) ?hr ?_; (case hd => rfl); (case hg => rfl); (case hr => first | (go_simp; done) | (go_simp; rfl)); intro gb hgb w3 hbox hb; have Kb := Aside0.mk hbox; have GEb := Aside0.mk (Nat.le_of_eq hgb.symm : w.heap.size ≤ gb); have n0_ := Aside0.mk (below_step HB.out hb); clear HB; have HB := n0_; clear n0_ hbox hb hgb; have q0 : w3.cell? ⟨gb, 0, none⟩ = some (.int .i64 block) := (blk_cell Kb.out 0).trans rfl; have q1 : w3.cell? ⟨gb, 1, none⟩ = some (.slice AI items.length cI) := (blk_cell Kb.out 1).trans rfl) | (go_at_call 9; refine (selvedgelaw13_works.calls true _ HWK.out (HG.out.below (by repeat (first | (with_reducible first | exact HB.out | apply below_alloc | apply pw_below_drewN | apply below_drew1 | refine below_set ?_ GEb.out) | exact HB.out)))).mono ?_; rintro e wk ⟨rfl, hb⟩; have n0_ := Aside0.mk (below_step (by repeat (first | (with_reducible first | exact HB.out | apply below_alloc | apply pw_below_drewN | apply below_drew1 | refine below_set ?_ GEb.out) | exact HB.out)) hb); clear HB; have HB := n0_; clear n0_ hb))
      go_ret
      exact ⟨rfl, (by repeat (first | (with_reducible first | exact HB.out | apply below_alloc | apply pw_below_drewN | apply below_drew1 | refine below_set ?_ GEb.out) | exact HB.out))⟩
    · have k2 : decide (300 < (st.length : Int)) = false := decide_eq_false (by omega)
      have k2b : decide (300 < st.length) = false := decide_eq_false (by omega)
      have HL := Aside0.mk (show items.length ≤ 600 by omega)
      have HLS := Aside0.mk (show st.length ≤ 300 by omega)
      clear h1 h2
      obtain ⟨P, hP⟩ : ∃ P, (split block items st hard).1 = P := ⟨_, rfl⟩
      obtain ⟨E, hE⟩ : ∃ E, (split block items st hard).2 = E := ⟨_, rfl⟩
      have HPE := Aside0.mk hP
      have HEE := Aside0.mk hE
      have HK := Aside0.mk (split_keeps block items st hard)
      have HSH := Aside0.mk (split_short block items st hard)
      rw [hP, hE] at HK HSH
      have HP0 := Aside0.mk (split_none block items st hard)
      rw [hP, hE] at HP0
      clear hP hE
      by_cases hE : E = 0
      rotate_left
      · have hE2 : (E != 0) = true := by simpa using hE
        have hP0 := HP0.out hE
        have hPl : ((P.length : Int) == 0) = true := by rw [hP0]; rfl
        clear hE hP0
        go_enter Tryd.func5, Tryd.ntmps5
        go_wp2_with (first | ((with_reducible refine gate_dst (N := 3) rfl ?_); (try (refine gate_guard (by rfl) ?_; dsimp only)); refine box_event ?hg (N := 3) ?hd (cs := #[.int .i64 block, .slice AI items.length cI]) (t := 24) ?hr ?_; (case hd => rfl); (case hg => rfl); (case hr => first | (go_simp; done) | (go_simp; rfl)); intro gb hgb w3 hbox hb; have Kb := Aside0.mk hbox; have GEb := Aside0.mk (Nat.le_of_eq hgb.symm : w.heap.size ≤ gb); have n0_ := Aside0.mk (below_step HB.out hb); clear HB; have HB := n0_; clear n0_ hbox hb hgb; have q0 : w3.cell? ⟨gb, 0, none⟩ = some (.int .i64 block) := (blk_cell Kb.out 0).trans rfl; have q1 : w3.cell? ⟨gb, 1, none⟩ = some (.slice AI items.length cI) := (blk_cell Kb.out 1).trans rfl) | (go_at_call 10; refine (split_calls block AI A cI c items st hard _ (Kd.C_below HI.out HB.out) HCI.out (Kd.C_below HS.out HB.out) HC.out (by have := HL.out; omega) (by have := HLS.out; omega) HU.out (HG.out.below HB.out)).mono ?_; rintro e w10 ⟨v10, rfl, ho, hb⟩; rw [HPE.out] at ho; rw [HEE.out]; obtain ⟨Ap, cp, rfl⟩ := Kd.S_slice ho; have HP := Aside0.mk (show Kd.C kPar w10 Ap P.length P from (Kd.S_reads' ho).2.2); have n2_ := Aside0.mk (blk_below Kb.out hb); have n4_ := Aside0.mk (below_step HB.out hb); clear Kb HB; have Kb := n2_; have HB := n4_; clear n2_ n4_ hb ho q0 q1) | (go_at_call 9; refine (selvedgelaw13_works.calls true _ HWK.out (HG.out.below (by repeat (first | (with_reducible first | exact HB.out | apply below_alloc | apply pw_below_drewN | apply below_drew1 | refine below_set ?_ GEb.out) | exact HB.out)))).mono ?_; rintro e wk ⟨rfl, hb⟩; have n0_ := Aside0.mk (below_step (by repeat (first | (with_reducible first | exact HB.out | apply below_alloc | apply pw_below_drewN | apply below_drew1 | refine below_set ?_ GEb.out) | exact HB.out)) hb); clear HB; have HB := n0_; clear n0_ hb))
        go_ret
        exact ⟨rfl, (by repeat (first | (with_reducible first | exact HB.out | apply below_alloc | apply pw_below_drewN | apply below_drew1 | refine below_set ?_ GEb.out) | exact HB.out))⟩
      · subst hE
        have HKP := Aside0.mk (HK.out rfl)
        have HLP := Aside0.mk (HSH.out rfl).1
        have HLL := Aside0.mk (HSH.out rfl).2
        clear HK HSH HP0
        go_enter Tryd.func5, Tryd.ntmps5
        go_wp2_with (first | ((with_reducible refine gate_dst (N := 3) rfl ?_); (try (refine gate_guard (by rfl) ?_; dsimp only)); refine box_event ?hg (N := 3) ?hd (cs := #[.int .i64 block, .slice AI items.length cI]) (t := 24) ?hr ?_; (case hd => rfl); (case hg => rfl); (case hr => first | (go_simp; done) | (go_simp; rfl)); intro gb hgb w3 hbox hb; have Kb := Aside0.mk hbox; have GEb := Aside0.mk (Nat.le_of_eq hgb.symm : w.heap.size ≤ gb); have n0_ := Aside0.mk (below_step HB.out hb); clear HB; have HB := n0_; clear n0_ hbox hb hgb; have q0 : w3.cell? ⟨gb, 0, none⟩ = some (.int .i64 block) := (blk_cell Kb.out 0).trans rfl; have q1 : w3.cell? ⟨gb, 1, none⟩ = some (.slice AI items.length cI) := (blk_cell Kb.out 1).trans rfl) | (go_at_call 10; refine (split_calls block AI A cI c items st hard _ (Kd.C_below HI.out HB.out) HCI.out (Kd.C_below HS.out HB.out) HC.out (by have := HL.out; omega) (by have := HLS.out; omega) HU.out (HG.out.below HB.out)).mono ?_; rintro e w10 ⟨v10, rfl, ho, hb⟩; rw [HPE.out] at ho; rw [HEE.out]; obtain ⟨Ap, cp, rfl⟩ := Kd.S_slice ho; have HP := Aside0.mk (show Kd.C kPar w10 Ap P.length P from (Kd.S_reads' ho).2.2); have n2_ := Aside0.mk (blk_below Kb.out hb); have n4_ := Aside0.mk (below_step HB.out hb); clear Kb HB; have Kb := n2_; have HB := n4_; clear n2_ n4_ hb ho q0 q1))
        go_loopg [9, 10] P.length (fun gk v9 v10 wr => ∃ (at_ i : Nat), v9 = .int .i64 (at_ : Int) ∧ v10 = .int .i64 (i : Int) ∧ Aside0 (gk = P.length - i ∧ i ≤ P.length) ∧ Aside0 (at_ ≤ items.length ∧ chs ((P.drop i).flatMap (·.f1)) = cfA items at_) ∧ Aside0 (Below w10.heap.size w10 wr))
        case atStart => exact ⟨0, 0, rfl, rfl, ⟨rfl, Nat.zero_le _⟩, ⟨Nat.zero_le _, HKP.out.chars⟩, ⟨Below.refl _ _⟩⟩
        case round =>
          obtain ⟨a, i, rfl, rfl, HQ, HA, HW⟩ := hrel
          obtain ⟨wo, hwo⟩ : ∃ wo, wo = wr := ⟨_, rfl⟩
          subst hwo
          by_cases hi : i < P.length
          · have hi2 : decide ((i : Int) < (P.length : Int)) = true := decide_eq_true (by omega)
            have HIL := Aside0.mk hi
            have hi3 : (i : Int) < 1000000000 := by have := HLP.out; have := HL.out; omega
            obtain ⟨p, hp⟩ : ∃ p, P.getD i z39 = p := ⟨_, rfl⟩
            have HPP := Aside0.mk hp
            have hmem : p ∈ P := by rw [← hp, List.getD_eq_getElem?_getD, List.getElem?_eq_getElem hi]; exact List.getElem_mem _
            have HPO := Aside0.mk (HKP.out.par p hmem)
            have HPS := Aside0.mk (HLL.out p hmem)
            have hfl := HA.out.2
            rw [chs_flat P i hi, hp] at hfl
            have HFL := Aside0.mk hfl
            have HAL := Aside0.mk HA.out.1
            clear HA
            obtain ⟨R, hR⟩ : ∃ R, chs ((P.drop (i + 1)).flatMap (·.f1)) = R := ⟨_, rfl⟩
            rw [hR] at HFL
            have HRR := Aside0.mk hR
            obtain ⟨ap, A1, c1, hA, x0, x1, x2, l1, hL⟩ := at_T39 (Kd.C_below HP.out HW.out) (i : Int) (by omega) (by omega)
            cases hA
            rw [Int.toNat_natCast] at x0 x1 x2
            rw [show rd_T39 P (i : Int) = p from hp] at x0 x1 x2 l1 hL
            have HLp := Aside0.mk hL
            have HL1 := Aside0.mk l1
            have pi0 := eq_true (show 0 ≤ (i : Int) by omega)
            have pi1 := eq_true (show (i : Int) < (P.length : Int) by omega)
            clear hi hp hmem hfl hR hL l1
            go_wp2
            clear x0 x1 x2
            go_loopg [9, 12] p.f1.length (fun gk v9 v12 wr2 => ∃ (at_ k : Nat), v9 = .int .i64 (at_ : Int) ∧ v12 = .int .i64 (k : Int) ∧ Aside0 (gk = p.f1.length - k ∧ k ≤ p.f1.length) ∧ Aside0 (at_ ≤ items.length ∧ chs (p.f1.drop k) ++ R = cfA items at_) ∧ Aside0 (Below wo.heap.size wo wr2))
            case atStart => exact ⟨a, 0, rfl, rfl, ⟨rfl, Nat.zero_le _⟩, ⟨HAL.out, HFL.out⟩, ⟨Below.refl _ _⟩⟩
            case round =>
              obtain ⟨a, k, rfl, rfl, HQ2, HA, HWr⟩ := hrel
              by_cases hk : k < p.f1.length
              · have HKL := Aside0.mk hk
                have hlb : (p.f1.length : Int) ≤ 65536 := by have := HPS.out; omega
                have hk2 : decide ((k : Int) < (p.f1.length : Int)) = true := decide_eq_true (by omega)
                have hkb : (k : Int) < 1000000000 := by omega
                obtain ⟨aq, hA, y0, y1, y2⟩ := at_T41 (Kd.C_below HLp.out HWr.out) (k : Int) (by omega) (by omega)
                cases hA
                rw [Int.toNat_natCast] at y0 y1 y2
                obtain ⟨x, hx⟩ : ∃ x, p.f1.getD k z41 = x := ⟨_, rfl⟩
                rw [show rd_T41 p.f1 (k : Int) = x from hx] at y0 y1 y2
                have hch := chs_drop p.f1 k hk
                rw [hx] at hch
                have hxm : x ∈ p.f1 := by rw [← hx, List.getD_eq_getElem?_getD, List.getElem?_eq_getElem hk]; exact List.getElem_mem _
                have HXM := Aside0.mk hxm
                have HX := Aside0.mk hx
                have pk0 := eq_true (show 0 ≤ (k : Int) by omega)
                have pk1 := eq_true (show (k : Int) < (p.f1.length : Int) by omega)
                clear hk hx hxm
                cases hf : x.f2
                rotate_left
                · rw [hf] at y2 hch
                  rw [if_pos rfl] at hch
                  have HA2 := Aside0.mk (show a ≤ items.length ∧ chs (p.f1.drop (k + 1)) ++ R = cfA items a by rw [← hch]; exact HA.out)
                  clear hf hch HA
                  go_wp2
                  go_roundg (p.f1.length - (k + 1))
                  case measure => have := HQ2.out; have := HKL.out; omega
                  case rel => exact ⟨a, k + 1, rfl, by go_num, ⟨rfl, HKL.out⟩, HA2, ⟨below_alloc HWr.out _⟩⟩
                · rw [hf] at y2 hch
                  rw [if_neg (by decide)] at hch
                  obtain ⟨T, hT⟩ : ∃ T, chs (p.f1.drop (k + 1)) ++ R = T := ⟨_, rfl⟩
                  have HT := Aside0.mk hT
                  have HA2 := Aside0.mk (show a ≤ items.length ∧ cfA items a = x.f1 :: T by rw [← hT]; refine ⟨HA.out.1, ?_⟩; rw [← HA.out.2, hch]; rfl)
                  have HXC := Aside0.mk (HPO.out.2 x HXM.out hf)
                  have HSEP := Aside0.mk (show k + 1 < p.f1.length → clsOf x.f0 ≠ 11 from fun hk => by have := HPO.out.1.sep k hk; rw [HX.out] at this; exact this hf)
                  clear hf hch HA hT
                  go_wp2
                  obtain ⟨wz, hwz⟩ : ∃ wz, wz = wr.alloc (.cells #[.int .i32 x.f0, .int .i64 x.f1, .bool false] 41) := ⟨_, rfl⟩
                  obtain ⟨gx, hgx⟩ : ∃ gx, gx = wr.heap.size := ⟨_, rfl⟩
                  rw [← hwz, ← hgx]
                  have Kz := Aside0.mk (show wz.heap[gx]? = some (.cells #[.int .i32 x.f0, .int .i64 x.f1, .bool false] 41 (0, 0)) by rw [hwz, hgx]; exact blk_new _ _)
                  have HWz := Aside0.mk (show Below wo.heap.size wo wz by rw [hwz]; exact below_alloc HWr.out _)
                  clear hwz hgx HWr y0 y1 y2
                  go_loopg [9] (items.length - a) (fun gk v9 wr3 => ∃ at_ : Nat, v9 = .int .i64 (at_ : Int) ∧ Aside0 (gk = items.length - at_) ∧ Aside0 (at_ ≤ items.length ∧ cfA items at_ = x.f1 :: T) ∧ Aside0 (Below wz.heap.size wz wr3))
                  case atStart => exact ⟨a, rfl, ⟨rfl⟩, HA2, ⟨Below.refl _ _⟩⟩
                  case round =>
                    obtain ⟨a, rfl, HQ3, HA3, HW3⟩ := hrel
                    have hal : a < items.length := by
                      rcases Nat.lt_or_ge a items.length with h | h
                      · exact h
                      · have := HA3.out.2; rw [cfA_end items a h] at this; cases this
                    have HALT := Aside0.mk hal
                    have hst := cfA_step items a hal
                    rw [HA3.out.2] at hst
                    obtain ⟨it, hit⟩ : ∃ it, items.getD a z47 = it := ⟨_, rfl⟩
                    rw [hit] at hst
                    have HIT := Aside0.mk hit
                    obtain ⟨ai, hA, i0, i1, i2, i3, i4⟩ := at_T47 (Kd.C_below HI.out (below_step (below_step HB.out (below_step HW.out HWz.out)) HW3.out)) (a : Int) (by omega) (by omega)
                    cases hA
                    rw [Int.toNat_natCast] at i0 i1 i2 i3 i4
                    rw [show rd_T47 items (a : Int) = it from hit] at i0 i1 i2 i3 i4
                    have qf : wr.cell? ⟨gb, 1, none⟩ = some (.slice (some ai) items.length cI) := (blk_cell (blk_below (blk_below Kb.out (below_step HW.out HWz.out)) HW3.out) 1).trans rfl
                    have ha2 : decide ((a : Int) < (items.length : Int)) = true := decide_eq_true (by omega)
                    have ha3 : (a : Int) < 1000000000 := by have := HL.out; omega
                    have pa0 := eq_true (show 0 ≤ (a : Int) by omega)
                    have pa1 := eq_true (show (a : Int) < (items.length : Int) by omega)
                    clear hal hit
                    by_cases h3 : it.f0 = 3
                    rotate_left
                    · have h3b : (it.f0 != 3) = true := by simpa using h3
                      rw [if_neg h3] at hst
                      have HA4 := Aside0.mk (show a + 1 ≤ items.length ∧ cfA items (a + 1) = x.f1 :: T from ⟨HALT.out, hst.symm⟩)
                      clear h3 hst i1 i2 i3 i4
                      go_wp2
                      go_roundg (items.length - (a + 1))
                      case measure => have := HQ3.out; have := HALT.out; omega
                      case rel => exact ⟨a + 1, by go_num, ⟨rfl⟩, HA4, ⟨by repeat (first | exact HW3.out | apply below_alloc | apply pw_below_drewN | apply below_drew1)⟩⟩
                    · have h3b : (it.f0 != 3) = false := by simp [h3]
                      rw [if_pos h3] at hst
                      have hxa : x.f1 = (a : Int) := by injection hst
                      have hTT : cfA items (a + 1) = T := by injection hst with _ h; exact h.symm
                      have HTT := Aside0.mk hTT
                      clear h3 hst hTT
                      go_wp2
                      have hxr : (x.f1 != (a : Int)) = false := by rw [hxa]; simp
                      have haa : ((a : Int) == (items.length : Int)) = false := by simp; have := HALT.out; omega
                      have HI3 := Aside0.mk i3
                      have HQF := Aside0.mk qf
                      have HKz := Aside0.mk (blk_below Kz.out HW3.out)
                      have HWq := Aside0.mk (below_step HWz.out HW3.out)
                      clear i0 i1 i2 i3 i4 qf
                      have HOK := Aside0.mk (show x.f0 = it.f3 ∨ (hard = true ∧ x.f0 = 65533) by have := HXC.out; unfold okc at this; rw [hxa, Int.toNat_natCast, HIT.out] at this; exact this)
                      refine start_ (n := 31) (S := fun w' => Below wr.heap.size wr w') (ds := []) #[false, false, false, false, false, false, false, false, false, false, false, false, false, false, false, false, false, false, false, false, false, false, false, false, false, false, false, false, false, false, false] (by kernel_rfl) rfl rfl (below_drew (Below.refl wr.heap.size wr)) (fun hHeld => ?_)
                      refine with_tabW keeps.tab18 keeps.bits18 (fun HT_ HW_ => ?_)
                      generalize wr.drew = w18 at hHeld ⊢
                      refine pure_ (i := 0) (N := some 79) (v := ?_) (a' := ?_) #[true, false, false, false, false, false, false, false, false, false, false, false, false, false, false, false, false, false, false, false, false, false, false, false, false, false, false, false, false, false, false] rfl rfl (any_of HT_.out (by kernel_rfl)) (fun _ _ _ h => h) (Or.inl ⟨by rfl, ?_⟩) ?_ ?_
                      rotate_left
                      · intro w'
                        go_simp
                        with_reducible rfl
                      rotate_left
                      · simp only [Act.put, List.setIfInBounds_toArray, List.set_cons_zero, List.set_cons_succ, i64_w, i32_w]
                        rfl
                      refine pure_ (i := 1) (N := some 80) (v := ?_) (a' := ?_) #[true, true, false, false, false, false, false, false, false, false, false, false, false, false, false, false, false, false, false, false, false, false, false, false, false, false, false, false, false, false, false] rfl rfl (any_of HT_.out (by kernel_rfl)) (fun _ _ _ h => h) (Or.inl ⟨by rfl, ?_⟩) ?_ ?_
                      rotate_left
                      · intro w'
                        go_simp
                        with_reducible rfl
                      rotate_left
                      · simp only [Act.put, List.setIfInBounds_toArray, List.set_cons_zero, List.set_cons_succ, i64_w, i32_w]
                        rfl
                      refine take_ (i := 2) (N := some 81) (v := ?_) (a' := ?_) #[true, true, true, false, false, false, false, false, false, false, false, false, false, false, false, false, false, false, false, false, false, false, false, false, false, false, false, false, false, false, false] rfl rfl (take_ofW HT_.out HW_.out (by kernel_rfl)) (fun _ _ _ h => h) (Or.inl ⟨by rfl, ?_⟩) hHeld ?_ ?_
                      rotate_left
                      · rintro w' s0
                        have z0 := (s0.cell (World.block_lt_of_cell? _ _ (blk_cell HKz.out 0))).trans (blk_cell HKz.out 0)
                        have z1 := (s0.cell (World.block_lt_of_cell? _ _ (blk_cell HKz.out 1))).trans (blk_cell HKz.out 1)
                        have zi := (s0.cell (World.block_lt_of_cell? _ _ HI3.out)).trans HI3.out
                        have zf := (s0.cell (World.block_lt_of_cell? _ _ HQF.out)).trans HQF.out
                        simp only [List.getElem?_toArray, List.getElem?_cons_zero, List.getElem?_cons_succ] at z0 z1
                        go_simp
                        with_reducible rfl
                      rotate_left
                      · simp only [Act.put, List.setIfInBounds_toArray, List.set_cons_zero, List.set_cons_succ, i64_w, i32_w]
                        rfl
                      refine pure_ (i := 3) (N := some 82) (v := ?_) (a' := ?_) #[true, true, true, true, false, false, false, false, false, false, false, false, false, false, false, false, false, false, false, false, false, false, false, false, false, false, false, false, false, false, false] rfl rfl (any_of HT_.out (by kernel_rfl)) (fun _ _ _ h => h) (Or.inl ⟨by rfl, ?_⟩) ?_ ?_
                      rotate_left
                      · intro w'
                        go_simp
                        with_reducible rfl
                      rotate_left
                      · simp only [Act.put, List.setIfInBounds_toArray, List.set_cons_zero, List.set_cons_succ, i64_w, i32_w]
                        rfl
                      refine pure_ (i := 4) (N := some 83) (v := ?_) (a' := ?_) #[true, true, true, true, true, false, false, false, false, false, false, false, false, false, false, false, false, false, false, false, false, false, false, false, false, false, false, false, false, false, false] rfl rfl (any_of HT_.out (by kernel_rfl)) (fun _ _ _ h => h) (Or.inl ⟨by rfl, ?_⟩) ?_ ?_
                      rotate_left
                      · intro w'
                        go_simp
                        with_reducible rfl
                      rotate_left
                      · simp only [Act.put, List.setIfInBounds_toArray, List.set_cons_zero, List.set_cons_succ, i64_w, i32_w]
                        rfl
                      refine pure_ (i := 5) (N := some 84) (v := ?_) (a' := ?_) #[true, true, true, true, true, true, false, false, false, false, false, false, false, false, false, false, false, false, false, false, false, false, false, false, false, false, false, false, false, false, false] rfl rfl (any_of HT_.out (by kernel_rfl)) (fun _ _ _ h => h) (Or.inl ⟨by rfl, ?_⟩) ?_ ?_
                      rotate_left
                      · intro w'
                        go_simp
                        with_reducible rfl
                      rotate_left
                      · simp only [Act.put, List.setIfInBounds_toArray, List.set_cons_zero, List.set_cons_succ, i64_w, i32_w]
                        rfl
                      refine pure_ (i := 6) (N := some 85) (v := ?_) (a' := ?_) #[true, true, true, true, true, true, true, false, false, false, false, false, false, false, false, false, false, false, false, false, false, false, false, false, false, false, false, false, false, false, false] rfl rfl (any_of HT_.out (by kernel_rfl)) (fun _ _ _ h => h) (Or.inl ⟨by rfl, ?_⟩) ?_ ?_
                      rotate_left
                      · intro w'
                        go_simp
                        with_reducible rfl
                      rotate_left
                      · simp only [Act.put, List.setIfInBounds_toArray, List.set_cons_zero, List.set_cons_succ, i64_w, i32_w]
                        rfl
                      refine pure_ (i := 8) (N := some 87) (v := ?_) (a' := ?_) #[true, true, true, true, true, true, true, false, true, false, false, false, false, false, false, false, false, false, false, false, false, false, false, false, false, false, false, false, false, false, false] rfl rfl (any_of HT_.out (by kernel_rfl)) (fun _ _ _ h => h) (Or.inl ⟨by rfl, ?_⟩) ?_ ?_
                      rotate_left
                      · intro w'
                        go_simp
                        with_reducible rfl
                      rotate_left
                      · simp only [Act.put, List.setIfInBounds_toArray, List.set_cons_zero, List.set_cons_succ, i64_w, i32_w]
                        rfl
                      refine take_ (i := 7) (N := some 86) (v := ?_) (a' := ?_) #[true, true, true, true, true, true, true, true, true, false, false, false, false, false, false, false, false, false, false, false, false, false, false, false, false, false, false, false, false, false, false] rfl rfl (take_ofW HT_.out HW_.out (by kernel_rfl)) (fun _ _ _ h => h) (Or.inl ⟨by rfl, ?_⟩) hHeld ?_ ?_
                      rotate_left
                      · rintro w' s0
                        have z0 := (s0.cell (World.block_lt_of_cell? _ _ (blk_cell HKz.out 0))).trans (blk_cell HKz.out 0)
                        have z1 := (s0.cell (World.block_lt_of_cell? _ _ (blk_cell HKz.out 1))).trans (blk_cell HKz.out 1)
                        have zi := (s0.cell (World.block_lt_of_cell? _ _ HI3.out)).trans HI3.out
                        have zf := (s0.cell (World.block_lt_of_cell? _ _ HQF.out)).trans HQF.out
                        simp only [List.getElem?_toArray, List.getElem?_cons_zero, List.getElem?_cons_succ] at z0 z1
                        go_simp
                        with_reducible rfl
                      rotate_left
                      · simp only [Act.put, List.setIfInBounds_toArray, List.set_cons_zero, List.set_cons_succ, i64_w, i32_w]
                        rfl
                      refine pure_ (i := 9) (N := some 88) (v := ?_) (a' := ?_) #[true, true, true, true, true, true, true, true, true, true, false, false, false, false, false, false, false, false, false, false, false, false, false, false, false, false, false, false, false, false, false] rfl rfl (any_of HT_.out (by kernel_rfl)) (fun _ _ _ h => h) (Or.inl ⟨by rfl, ?_⟩) ?_ ?_
                      rotate_left
                      · intro w'
                        go_simp
                        with_reducible rfl
                      rotate_left
                      · simp only [Act.put, List.setIfInBounds_toArray, List.set_cons_zero, List.set_cons_succ, i64_w, i32_w]
                        rfl
                      refine pure_ (i := 10) (N := some 89) (v := ?_) (a' := ?_) #[true, true, true, true, true, true, true, true, true, true, true, false, false, false, false, false, false, false, false, false, false, false, false, false, false, false, false, false, false, false, false] rfl rfl (any_of HT_.out (by kernel_rfl)) (fun _ _ _ h => h) (Or.inl ⟨by rfl, ?_⟩) ?_ ?_
                      rotate_left
                      · intro w'
                        go_simp
                        with_reducible rfl
                      rotate_left
                      · simp only [Act.put, List.setIfInBounds_toArray, List.set_cons_zero, List.set_cons_succ, i64_w, i32_w]
                        rfl
                      refine pure_ (i := 11) (N := some 90) (v := ?_) (a' := ?_) #[true, true, true, true, true, true, true, true, true, true, true, true, false, false, false, false, false, false, false, false, false, false, false, false, false, false, false, false, false, false, false] rfl rfl (any_of HT_.out (by kernel_rfl)) (fun _ _ _ h => h) (Or.inl ⟨by rfl, ?_⟩) ?_ ?_
                      rotate_left
                      · intro w'
                        go_simp
                        with_reducible rfl
                      rotate_left
                      · simp only [Act.put, List.setIfInBounds_toArray, List.set_cons_zero, List.set_cons_succ, i64_w, i32_w]
                        rfl
                      refine pure_ (i := 12) (N := some 91) (v := ?_) (a' := ?_) #[true, true, true, true, true, true, true, true, true, true, true, true, true, false, false, false, false, false, false, false, false, false, false, false, false, false, false, false, false, false, false] rfl rfl (any_of HT_.out (by kernel_rfl)) (fun _ _ _ h => h) (Or.inl ⟨by rfl, ?_⟩) ?_ ?_
                      rotate_left
                      · intro w'
                        go_simp
                        with_reducible rfl
                      rotate_left
                      · simp only [Act.put, List.setIfInBounds_toArray, List.set_cons_zero, List.set_cons_succ, i64_w, i32_w]
                        rfl
                      refine pure_ (i := 14) (N := some 93) (v := ?_) (a' := ?_) #[true, true, true, true, true, true, true, true, true, true, true, true, true, false, true, false, false, false, false, false, false, false, false, false, false, false, false, false, false, false, false] rfl rfl (any_of HT_.out (by kernel_rfl)) (fun _ _ _ h => h) (Or.inl ⟨by rfl, ?_⟩) ?_ ?_
                      rotate_left
                      · intro w'
                        go_simp
                        with_reducible rfl
                      rotate_left
                      · simp only [Act.put, List.setIfInBounds_toArray, List.set_cons_zero, List.set_cons_succ, i64_w, i32_w]
                        rfl
                      refine pure_ (i := 16) (N := some 95) (v := ?_) (a' := ?_) #[true, true, true, true, true, true, true, true, true, true, true, true, true, false, true, false, true, false, false, false, false, false, false, false, false, false, false, false, false, false, false] rfl rfl (any_of HT_.out (by kernel_rfl)) (fun _ _ _ h => h) (Or.inl ⟨by rfl, ?_⟩) ?_ ?_
                      rotate_left
                      · intro w'
                        go_simp
                        with_reducible rfl
                      rotate_left
                      · simp only [Act.put, List.setIfInBounds_toArray, List.set_cons_zero, List.set_cons_succ, i64_w, i32_w]
                        rfl
                      refine take_ (i := 13) (N := some 92) (v := ?_) (a' := ?_) #[true, true, true, true, true, true, true, true, true, true, true, true, true, true, true, false, true, false, false, false, false, false, false, false, false, false, false, false, false, false, false] rfl rfl (take_ofW HT_.out HW_.out (by kernel_rfl)) (fun _ _ _ h => h) (Or.inl ⟨by rfl, ?_⟩) hHeld ?_ ?_
                      rotate_left
                      · rintro w' s0
                        have z0 := (s0.cell (World.block_lt_of_cell? _ _ (blk_cell HKz.out 0))).trans (blk_cell HKz.out 0)
                        have z1 := (s0.cell (World.block_lt_of_cell? _ _ (blk_cell HKz.out 1))).trans (blk_cell HKz.out 1)
                        have zi := (s0.cell (World.block_lt_of_cell? _ _ HI3.out)).trans HI3.out
                        have zf := (s0.cell (World.block_lt_of_cell? _ _ HQF.out)).trans HQF.out
                        simp only [List.getElem?_toArray, List.getElem?_cons_zero, List.getElem?_cons_succ] at z0 z1
                        go_simp
                        with_reducible rfl
                      rotate_left
                      · simp only [Act.put, List.setIfInBounds_toArray, List.set_cons_zero, List.set_cons_succ, i64_w, i32_w]
                        rfl
                      refine take_ (i := 15) (N := some 94) (v := ?_) (a' := ?_) #[true, true, true, true, true, true, true, true, true, true, true, true, true, true, true, true, true, false, false, false, false, false, false, false, false, false, false, false, false, false, false] rfl rfl (take_ofW HT_.out HW_.out (by kernel_rfl)) (fun _ _ _ h => h) (Or.inl ⟨by rfl, ?_⟩) hHeld ?_ ?_
                      rotate_left
                      · rintro w' s0
                        have z0 := (s0.cell (World.block_lt_of_cell? _ _ (blk_cell HKz.out 0))).trans (blk_cell HKz.out 0)
                        have z1 := (s0.cell (World.block_lt_of_cell? _ _ (blk_cell HKz.out 1))).trans (blk_cell HKz.out 1)
                        have zi := (s0.cell (World.block_lt_of_cell? _ _ HI3.out)).trans HI3.out
                        have zf := (s0.cell (World.block_lt_of_cell? _ _ HQF.out)).trans HQF.out
                        simp only [List.getElem?_toArray, List.getElem?_cons_zero, List.getElem?_cons_succ] at z0 z1
                        go_simp
                        with_reducible rfl
                      rotate_left
                      · simp only [Act.put, List.setIfInBounds_toArray, List.set_cons_zero, List.set_cons_succ, i64_w, i32_w]
                        rfl
                      refine pure_ (i := 17) (N := some 96) (v := ?_) (a' := ?_) #[true, true, true, true, true, true, true, true, true, true, true, true, true, true, true, true, true, true, false, false, false, false, false, false, false, false, false, false, false, false, false] rfl rfl (any_of HT_.out (by kernel_rfl)) (fun _ _ _ h => h) (Or.inl ⟨by rfl, ?_⟩) ?_ ?_
                      rotate_left
                      · intro w'
                        go_simp
                        with_reducible rfl
                      rotate_left
                      · simp only [Act.put, List.setIfInBounds_toArray, List.set_cons_zero, List.set_cons_succ, i64_w, i32_w]
                        rfl
                      refine pure_ (i := 18) (N := some 97) (v := ?_) (a' := ?_) #[true, true, true, true, true, true, true, true, true, true, true, true, true, true, true, true, true, true, true, false, false, false, false, false, false, false, false, false, false, false, false] rfl rfl (any_of HT_.out (by kernel_rfl)) (fun _ _ _ h => h) (Or.inl ⟨by rfl, ?_⟩) ?_ ?_
                      rotate_left
                      · intro w'
                        go_simp
                        with_reducible rfl
                      rotate_left
                      · simp only [Act.put, List.setIfInBounds_toArray, List.set_cons_zero, List.set_cons_succ, i64_w, i32_w]
                        rfl
                      refine take_ (i := 19) (N := some 98) (v := ?_) (a' := ?_) #[true, true, true, true, true, true, true, true, true, true, true, true, true, true, true, true, true, true, true, true, false, false, false, false, false, false, false, false, false, false, false] rfl rfl (take_ofW HT_.out HW_.out (by kernel_rfl)) (fun _ _ _ h => h) (Or.inl ⟨by rfl, ?_⟩) hHeld ?_ ?_
                      rotate_left
                      · rintro w' s0
                        have z0 := (s0.cell (World.block_lt_of_cell? _ _ (blk_cell HKz.out 0))).trans (blk_cell HKz.out 0)
                        have z1 := (s0.cell (World.block_lt_of_cell? _ _ (blk_cell HKz.out 1))).trans (blk_cell HKz.out 1)
                        have zi := (s0.cell (World.block_lt_of_cell? _ _ HI3.out)).trans HI3.out
                        have zf := (s0.cell (World.block_lt_of_cell? _ _ HQF.out)).trans HQF.out
                        simp only [List.getElem?_toArray, List.getElem?_cons_zero, List.getElem?_cons_succ] at z0 z1
                        go_simp
                        with_reducible rfl
                      rotate_left
                      · simp only [Act.put, List.setIfInBounds_toArray, List.set_cons_zero, List.set_cons_succ, i64_w, i32_w]
                        rfl
                      refine pure_ (i := 20) (N := some 99) (v := ?_) (a' := ?_) #[true, true, true, true, true, true, true, true, true, true, true, true, true, true, true, true, true, true, true, true, true, false, false, false, false, false, false, false, false, false, false] rfl rfl (any_of HT_.out (by kernel_rfl)) (fun _ _ _ h => h) (Or.inl ⟨by rfl, ?_⟩) ?_ ?_
                      rotate_left
                      · intro w'
                        go_simp
                        with_reducible rfl
                      rotate_left
                      · simp only [Act.put, List.setIfInBounds_toArray, List.set_cons_zero, List.set_cons_succ, i64_w, i32_w]
                        rfl
                      by_cases hne : x.f0 = it.f3
                      · have hne2 : (x.f0 != it.f3) = false := by simp [hne]
                        clear HOK
                        try rw [hne2]
                        refine pure_ (i := 21) (N := some 100) (v := ?_) (a' := ?_) #[true, true, true, true, true, true, true, true, true, true, true, true, true, true, true, true, true, true, true, true, true, true, false, false, false, false, false, false, false, false, false] rfl rfl (any_of HT_.out (by kernel_rfl)) (fun _ _ _ h => h) (Or.inl ⟨by rfl, ?_⟩) ?_ ?_
                        rotate_left
                        · intro w'
                          go_simp
                          with_reducible rfl
                        rotate_left
                        · simp only [Act.put, List.setIfInBounds_toArray, List.set_cons_zero, List.set_cons_succ, i64_w, i32_w]
                          rfl
                        refine pure_ (i := 22) (N := some 101) (v := undef) (a' := ?_) #[true, true, true, true, true, true, true, true, true, true, true, true, true, true, true, true, true, true, true, true, true, true, true, false, false, false, false, false, false, false, false] rfl rfl (any_of HT_.out (by kernel_rfl)) (fun _ _ _ h => h) (Or.inr ⟨by rfl, rfl⟩) ?_ ?_
                        rotate_left
                        · simp only [Act.put, List.setIfInBounds_toArray, List.set_cons_zero, List.set_cons_succ, i64_w, i32_w]
                          rfl
                        refine pure_ (i := 23) (N := some 102) (v := undef) (a' := ?_) #[true, true, true, true, true, true, true, true, true, true, true, true, true, true, true, true, true, true, true, true, true, true, true, true, false, false, false, false, false, false, false] rfl rfl (any_of HT_.out (by kernel_rfl)) (fun _ _ _ h => h) (Or.inr ⟨by rfl, rfl⟩) ?_ ?_
                        rotate_left
                        · simp only [Act.put, List.setIfInBounds_toArray, List.set_cons_zero, List.set_cons_succ, i64_w, i32_w]
                          rfl
                        refine pure_ (i := 24) (N := some 103) (v := undef) (a' := ?_) #[true, true, true, true, true, true, true, true, true, true, true, true, true, true, true, true, true, true, true, true, true, true, true, true, true, false, false, false, false, false, false] rfl rfl (any_of HT_.out (by kernel_rfl)) (fun _ _ _ h => h) (Or.inr ⟨by rfl, rfl⟩) ?_ ?_
                        rotate_left
                        · simp only [Act.put, List.setIfInBounds_toArray, List.set_cons_zero, List.set_cons_succ, i64_w, i32_w]
                          rfl
                        refine pure_ (i := 25) (N := some 104) (v := undef) (a' := ?_) #[true, true, true, true, true, true, true, true, true, true, true, true, true, true, true, true, true, true, true, true, true, true, true, true, true, true, false, false, false, false, false] rfl rfl (any_of HT_.out (by kernel_rfl)) (fun _ _ _ h => h) (Or.inr ⟨by rfl, rfl⟩) ?_ ?_
                        rotate_left
                        · simp only [Act.put, List.setIfInBounds_toArray, List.set_cons_zero, List.set_cons_succ, i64_w, i32_w]
                          rfl
                        refine pure_ (i := 26) (N := some 105) (v := undef) (a' := ?_) #[true, true, true, true, true, true, true, true, true, true, true, true, true, true, true, true, true, true, true, true, true, true, true, true, true, true, true, false, false, false, false] rfl rfl (any_of HT_.out (by kernel_rfl)) (fun _ _ _ h => h) (Or.inr ⟨by rfl, rfl⟩) ?_ ?_
                        rotate_left
                        · simp only [Act.put, List.setIfInBounds_toArray, List.set_cons_zero, List.set_cons_succ, i64_w, i32_w]
                          rfl
                        refine pure_ (i := 27) (N := some 106) (v := undef) (a' := ?_) #[true, true, true, true, true, true, true, true, true, true, true, true, true, true, true, true, true, true, true, true, true, true, true, true, true, true, true, true, false, false, false] rfl rfl (any_of HT_.out (by kernel_rfl)) (fun _ _ _ h => h) (Or.inr ⟨by rfl, rfl⟩) ?_ ?_
                        rotate_left
                        · simp only [Act.put, List.setIfInBounds_toArray, List.set_cons_zero, List.set_cons_succ, i64_w, i32_w]
                          rfl
                        refine pure_ (i := 28) (N := some 107) (v := undef) (a' := ?_) #[true, true, true, true, true, true, true, true, true, true, true, true, true, true, true, true, true, true, true, true, true, true, true, true, true, true, true, true, true, false, false] rfl rfl (any_of HT_.out (by kernel_rfl)) (fun _ _ _ h => h) (Or.inr ⟨by rfl, rfl⟩) ?_ ?_
                        rotate_left
                        · simp only [Act.put, List.setIfInBounds_toArray, List.set_cons_zero, List.set_cons_succ, i64_w, i32_w]
                          rfl
                        refine pure_ (i := 29) (N := some 108) (v := ?_) (a' := ?_) #[true, true, true, true, true, true, true, true, true, true, true, true, true, true, true, true, true, true, true, true, true, true, true, true, true, true, true, true, true, true, false] rfl rfl (any_of HT_.out (by kernel_rfl)) (fun _ _ _ h => h) (Or.inl ⟨by rfl, ?_⟩) ?_ ?_
                        rotate_left
                        · intro w'
                          go_simp
                          with_reducible rfl
                        rotate_left
                        · simp only [Act.put, List.setIfInBounds_toArray, List.set_cons_zero, List.set_cons_succ, i64_w, i32_w]
                          rfl
                        refine pure_ (i := 30) (N := some 109) (v := ?_) (a' := ?_) #[true, true, true, true, true, true, true, true, true, true, true, true, true, true, true, true, true, true, true, true, true, true, true, true, true, true, true, true, true, true, true] rfl rfl (any_of HT_.out (by kernel_rfl)) (fun _ _ _ h => h) (Or.inl ⟨by rfl, ?_⟩) ?_ ?_
                        rotate_left
                        · intro w'
                          go_simp
                          with_reducible rfl
                        rotate_left
                        · simp only [Act.put, List.setIfInBounds_toArray, List.set_cons_zero, List.set_cons_succ, i64_w, i32_w]
                          rfl
                        refine done_ (done_of HT_.out (by kernel_rfl)) ?_
                        have HWy := Aside0.mk (below_step HWq.out hHeld)
                        have ky0 := blk_cell (blk_below HKz.out hHeld) 0
                        simp only [List.getElem?_toArray, List.getElem?_cons_zero] at ky0
                        by_cases hc : clsOf x.f0 = 11
                        · have hcb : (clsOf x.f0 == 11) = true := by simp [hc]
                          have hkl : k + 1 = p.f1.length := by have h1 := HKL.out; by_cases h : k + 1 < p.f1.length; exact absurd hc (HSEP.out h); omega
                          have hkm : ((k : Int) != (p.f1.length : Int) - 1) = false := by simp; omega
                          have hwl : wrap64 ((p.f1.length : Int) - 1) = (p.f1.length : Int) - 1 := by unfold wrap64; omega
                          clear hc hxa hxr haa hne hne2 hkl
                          go_wp2_with (first | (go_at_call 16; refine (kclass_calls x.f0 _).mono ?_; rintro e w71 ⟨rfl, hb⟩; have n0_ := Aside0.mk (below_step HWy.out hb); clear HWy; have HWy := n0_; clear n0_ hb))
                          go_roundg (p.f1.length - (k + 1))
                          case measure => have := HQ2.out; have := HKL.out; omega
                          case rel => exact ⟨a + 1, k + 1, by go_num, by go_num, ⟨rfl, HKL.out⟩, ⟨HALT.out, by rw [HT.out]; exact HTT.out.symm⟩, HWy⟩
                        · have hcb : (clsOf x.f0 == 11) = false := by simpa using hc
                          clear hc hxa hxr haa hne hne2
                          go_wp2_with (first | (go_at_call 16; refine (kclass_calls x.f0 _).mono ?_; rintro e w71 ⟨rfl, hb⟩; have n0_ := Aside0.mk (below_step HWy.out hb); clear HWy; have HWy := n0_; clear n0_ hb))
                          go_roundg (p.f1.length - (k + 1))
                          case measure => have := HQ2.out; have := HKL.out; omega
                          case rel => exact ⟨a + 1, k + 1, by go_num, by go_num, ⟨rfl, HKL.out⟩, ⟨HALT.out, by rw [HT.out]; exact HTT.out.symm⟩, HWy⟩
                      · have hne2 : (x.f0 != it.f3) = true := by simpa using hne
                        have hh := HOK.out.resolve_left hne
                        obtain ⟨hh1, hh2⟩ := hh
                        have hh3 : (x.f0 == 65533) = true := by simp [hh2]
                        subst hh1
                        clear hh2
                        try rw [hne2]
                        refine pure_ (i := 21) (N := some 100) (v := ?_) (a' := ?_) #[true, true, true, true, true, true, true, true, true, true, true, true, true, true, true, true, true, true, true, true, true, true, false, false, false, false, false, false, false, false, false] rfl rfl (any_of HT_.out (by kernel_rfl)) (fun _ _ _ h => h) (Or.inl ⟨by rfl, ?_⟩) ?_ ?_
                        rotate_left
                        · intro w'
                          go_simp
                          with_reducible rfl
                        rotate_left
                        · simp only [Act.put, List.setIfInBounds_toArray, List.set_cons_zero, List.set_cons_succ, i64_w, i32_w]
                          rfl
                        refine pure_ (i := 22) (N := some 101) (v := ?_) (a' := ?_) #[true, true, true, true, true, true, true, true, true, true, true, true, true, true, true, true, true, true, true, true, true, true, true, false, false, false, false, false, false, false, false] rfl rfl (any_of HT_.out (by kernel_rfl)) (fun _ _ _ h => h) (Or.inl ⟨by rfl, ?_⟩) ?_ ?_
                        rotate_left
                        · intro w'
                          go_simp
                          with_reducible rfl
                        rotate_left
                        · simp only [Act.put, List.setIfInBounds_toArray, List.set_cons_zero, List.set_cons_succ, i64_w, i32_w]
                          rfl
                        refine pure_ (i := 23) (N := some 102) (v := ?_) (a' := ?_) #[true, true, true, true, true, true, true, true, true, true, true, true, true, true, true, true, true, true, true, true, true, true, true, true, false, false, false, false, false, false, false] rfl rfl (any_of HT_.out (by kernel_rfl)) (fun _ _ _ h => h) (Or.inl ⟨by rfl, ?_⟩) ?_ ?_
                        rotate_left
                        · intro w'
                          go_simp
                          with_reducible rfl
                        rotate_left
                        · simp only [Act.put, List.setIfInBounds_toArray, List.set_cons_zero, List.set_cons_succ, i64_w, i32_w]
                          rfl
                        refine pure_ (i := 24) (N := some 103) (v := ?_) (a' := ?_) #[true, true, true, true, true, true, true, true, true, true, true, true, true, true, true, true, true, true, true, true, true, true, true, true, true, false, false, false, false, false, false] rfl rfl (any_of HT_.out (by kernel_rfl)) (fun _ _ _ h => h) (Or.inl ⟨by rfl, ?_⟩) ?_ ?_
                        rotate_left
                        · intro w'
                          go_simp
                          with_reducible rfl
                        rotate_left
                        · simp only [Act.put, List.setIfInBounds_toArray, List.set_cons_zero, List.set_cons_succ, i64_w, i32_w]
                          rfl
                        refine take_ (i := 25) (N := some 104) (v := ?_) (a' := ?_) #[true, true, true, true, true, true, true, true, true, true, true, true, true, true, true, true, true, true, true, true, true, true, true, true, true, true, false, false, false, false, false] rfl rfl (take_ofW HT_.out HW_.out (by kernel_rfl)) (fun _ _ _ h => h) (Or.inl ⟨by rfl, ?_⟩) hHeld ?_ ?_
                        rotate_left
                        · rintro w' s0
                          have z0 := (s0.cell (World.block_lt_of_cell? _ _ (blk_cell HKz.out 0))).trans (blk_cell HKz.out 0)
                          have z1 := (s0.cell (World.block_lt_of_cell? _ _ (blk_cell HKz.out 1))).trans (blk_cell HKz.out 1)
                          have zi := (s0.cell (World.block_lt_of_cell? _ _ HI3.out)).trans HI3.out
                          have zf := (s0.cell (World.block_lt_of_cell? _ _ HQF.out)).trans HQF.out
                          simp only [List.getElem?_toArray, List.getElem?_cons_zero, List.getElem?_cons_succ] at z0 z1
                          go_simp
                          with_reducible rfl
                        rotate_left
                        · simp only [Act.put, List.setIfInBounds_toArray, List.set_cons_zero, List.set_cons_succ, i64_w, i32_w]
                          rfl
                        refine pure_ (i := 26) (N := some 105) (v := ?_) (a' := ?_) #[true, true, true, true, true, true, true, true, true, true, true, true, true, true, true, true, true, true, true, true, true, true, true, true, true, true, true, false, false, false, false] rfl rfl (any_of HT_.out (by kernel_rfl)) (fun _ _ _ h => h) (Or.inl ⟨by rfl, ?_⟩) ?_ ?_
                        rotate_left
                        · intro w'
                          go_simp
                          with_reducible rfl
                        rotate_left
                        · simp only [Act.put, List.setIfInBounds_toArray, List.set_cons_zero, List.set_cons_succ, i64_w, i32_w]
                          rfl
                        refine pure_ (i := 27) (N := some 106) (v := ?_) (a' := ?_) #[true, true, true, true, true, true, true, true, true, true, true, true, true, true, true, true, true, true, true, true, true, true, true, true, true, true, true, true, false, false, false] rfl rfl (any_of HT_.out (by kernel_rfl)) (fun _ _ _ h => h) (Or.inl ⟨by rfl, ?_⟩) ?_ ?_
                        rotate_left
                        · intro w'
                          go_simp
                          with_reducible rfl
                        rotate_left
                        · simp only [Act.put, List.setIfInBounds_toArray, List.set_cons_zero, List.set_cons_succ, i64_w, i32_w]
                          rfl
                        refine pure_ (i := 28) (N := some 107) (v := ?_) (a' := ?_) #[true, true, true, true, true, true, true, true, true, true, true, true, true, true, true, true, true, true, true, true, true, true, true, true, true, true, true, true, true, false, false] rfl rfl (any_of HT_.out (by kernel_rfl)) (fun _ _ _ h => h) (Or.inl ⟨by rfl, ?_⟩) ?_ ?_
                        rotate_left
                        · intro w'
                          go_simp
                          with_reducible rfl
                        rotate_left
                        · simp only [Act.put, List.setIfInBounds_toArray, List.set_cons_zero, List.set_cons_succ, i64_w, i32_w]
                          rfl
                        refine pure_ (i := 29) (N := some 108) (v := ?_) (a' := ?_) #[true, true, true, true, true, true, true, true, true, true, true, true, true, true, true, true, true, true, true, true, true, true, true, true, true, true, true, true, true, true, false] rfl rfl (any_of HT_.out (by kernel_rfl)) (fun _ _ _ h => h) (Or.inl ⟨by rfl, ?_⟩) ?_ ?_
                        rotate_left
                        · intro w'
                          go_simp
                          with_reducible rfl
                        rotate_left
                        · simp only [Act.put, List.setIfInBounds_toArray, List.set_cons_zero, List.set_cons_succ, i64_w, i32_w]
                          rfl
                        refine pure_ (i := 30) (N := some 109) (v := ?_) (a' := ?_) #[true, true, true, true, true, true, true, true, true, true, true, true, true, true, true, true, true, true, true, true, true, true, true, true, true, true, true, true, true, true, true] rfl rfl (any_of HT_.out (by kernel_rfl)) (fun _ _ _ h => h) (Or.inl ⟨by rfl, ?_⟩) ?_ ?_
                        rotate_left
                        · intro w'
                          go_simp
                          with_reducible rfl
                        rotate_left
                        · simp only [Act.put, List.setIfInBounds_toArray, List.set_cons_zero, List.set_cons_succ, i64_w, i32_w]
                          rfl
                        refine done_ (done_of HT_.out (by kernel_rfl)) ?_
                        have HWy := Aside0.mk (below_step HWq.out hHeld)
                        have ky0 := blk_cell (blk_below HKz.out hHeld) 0
                        simp only [List.getElem?_toArray, List.getElem?_cons_zero] at ky0
                        by_cases hc : clsOf x.f0 = 11
                        · have hcb : (clsOf x.f0 == 11) = true := by simp [hc]
                          have hkl : k + 1 = p.f1.length := by have h1 := HKL.out; by_cases h : k + 1 < p.f1.length; exact absurd hc (HSEP.out h); omega
                          have hkm : ((k : Int) != (p.f1.length : Int) - 1) = false := by simp; omega
                          have hwl : wrap64 ((p.f1.length : Int) - 1) = (p.f1.length : Int) - 1 := by unfold wrap64; omega
                          clear hc hxa hxr haa hne hne2 hkl
                          go_wp2_with (first | (go_at_call 16; refine (kclass_calls x.f0 _).mono ?_; rintro e w71 ⟨rfl, hb⟩; have n0_ := Aside0.mk (below_step HWy.out hb); clear HWy; have HWy := n0_; clear n0_ hb))
                          go_roundg (p.f1.length - (k + 1))
                          case measure => have := HQ2.out; have := HKL.out; omega
                          case rel => exact ⟨a + 1, k + 1, by go_num, by go_num, ⟨rfl, HKL.out⟩, ⟨HALT.out, by rw [HT.out]; exact HTT.out.symm⟩, HWy⟩
                        · have hcb : (clsOf x.f0 == 11) = false := by simpa using hc
                          clear hc hxa hxr haa hne hne2
                          go_wp2_with (first | (go_at_call 16; refine (kclass_calls x.f0 _).mono ?_; rintro e w71 ⟨rfl, hb⟩; have n0_ := Aside0.mk (below_step HWy.out hb); clear HWy; have HWy := n0_; clear n0_ hb))
                          go_roundg (p.f1.length - (k + 1))
                          case measure => have := HQ2.out; have := HKL.out; omega
                          case rel => exact ⟨a + 1, k + 1, by go_num, by go_num, ⟨rfl, HKL.out⟩, ⟨HALT.out, by rw [HT.out]; exact HTT.out.symm⟩, HWy⟩
              · obtain rfl : k = p.f1.length := by have := HQ2.out.2; omega
                clear hk
                have hfl := HA.out.2
                rw [List.drop_eq_nil_of_le (Nat.le_refl _)] at hfl
                have HA2 := Aside0.mk (show a ≤ items.length ∧ chs ((P.drop (i + 1)).flatMap (·.f1)) = cfA items a from ⟨HA.out.1, HRR.out.trans hfl⟩)
                clear hfl HA
                have HWy := HWr
                clear HWr
                have HLEN := Aside0.mk (show p.f1.length ≤ 900000000 by have := HPS.out; omega)
                by_cases h0 : p.f1.length = 0
                · obtain ⟨hbal, hiso, -⟩ := HPO.out.1.fin.resolve_left (fun h => by have := h.1; omega)
                  have HBAL := Aside0.mk hbal
                  have HNL := Aside0.mk h0
                  rw [h0]
                  clear h0 hbal
                  cases hard
                  · clear hiso
                    go_wp2_with (first | (go_at_call 17; refine (balN _ c1 p.f1 HNL.out _ (Kd.C_below HLp.out HWy.out) HL1.out HLEN.out HBAL.out).mono ?_; rintro e w72 ⟨rfl, hb⟩; have n0_ := Aside0.mk (below_step HWy.out hb); clear HWy; have HWy := n0_; clear n0_ hb))
                    go_roundg (P.length - (i + 1))
                    case measure => have := HQ.out; have := HIL.out; omega
                    case rel => exact ⟨a, i + 1, rfl, by go_num, ⟨rfl, HIL.out⟩, HA2, ⟨below_step HW.out (by repeat (first | exact HWy.out | apply below_alloc | apply pw_below_drewN | apply below_drew1))⟩⟩
                  · have HISO := Aside0.mk (hiso rfl)
                    clear hiso
                    go_wp2_with (first | (go_at_call 17; refine (balN _ c1 p.f1 HNL.out _ (Kd.C_below HLp.out HWy.out) HL1.out HLEN.out HBAL.out).mono ?_; rintro e w72 ⟨rfl, hb⟩; have n0_ := Aside0.mk (below_step HWy.out hb); clear HWy; have HWy := n0_; clear n0_ hb) | (go_at_call 18; refine (isoN _ c1 p.f1 HNL.out _ (Kd.C_below HLp.out HWy.out) HL1.out HLEN.out HISO.out).mono ?_; rintro e w72 ⟨rfl, hb⟩; have n0_ := Aside0.mk (below_step HWy.out hb); clear HWy; have HWy := n0_; clear n0_ hb))
                    go_roundg (P.length - (i + 1))
                    case measure => have := HQ.out; have := HIL.out; omega
                    case rel => exact ⟨a, i + 1, rfl, by go_num, ⟨rfl, HIL.out⟩, HA2, ⟨below_step HW.out (by repeat (first | exact HWy.out | apply below_alloc | apply pw_below_drewN | apply below_drew1))⟩⟩
                · obtain ⟨m, hm⟩ : ∃ m, p.f1.length = m + 1 := ⟨p.f1.length - 1, by omega⟩
                  obtain ⟨aq, hA, y0, y1, y2⟩ := at_T41 (Kd.C_below HLp.out HWy.out) (m : Int) (by omega) (by omega)
                  cases hA
                  rw [Int.toNat_natCast] at y0 y1 y2
                  obtain ⟨x, hx⟩ : ∃ x, p.f1.getD m z41 = x := ⟨_, rfl⟩
                  rw [show rd_T41 p.f1 (m : Int) = x from hx] at y0 y1 y2
                  have HNL := Aside0.mk hm
                  have HX := Aside0.mk hx
                  have hmb : (m : Int) < 1000000000 := by have := HPS.out; omega
                  have hsub : ((m + 1 : Nat) : Int) - 1 = (m : Int) := by omega
                  have hwm : wrap64 (m : Int) = (m : Int) := by unfold wrap64; omega
                  have pm0 := eq_true (show 0 ≤ (m : Int) by omega)
                  have pm1 := eq_true (show (m : Int) < ((m + 1 : Nat) : Int) by omega)
                  have pm2 := eq_true (show (m : Int) < (m : Int) + 1 by omega)
                  have g1 : decide (0 < ((m + 1 : Nat) : Int)) = true := decide_eq_true (by omega)
                  have g2 : decide (0 < (m : Int) + 1) = true := decide_eq_true (by omega)
                  have hxm : x ∈ p.f1 := by rw [← hx, List.getD_eq_getElem?_getD, List.getElem?_eq_getElem (by omega)]; exact List.getElem_mem _
                  rw [hm]
                  clear h0 hx
                  rcases HPO.out.1.fin with hfin | hfin
                  · obtain ⟨-, e1, e2⟩ := hfin
                    rw [HNL.out, Nat.add_sub_cancel, HX.out] at e1 e2
                    rw [e1] at y2
                    have hcb : (clsOf x.f0 == 11) = true := by simp [e2]
                    clear e1 e2 hm hxm
                    go_wp2_with (first | (go_at_call 16; refine (kclass_calls x.f0 _).mono ?_; rintro e w71 ⟨rfl, hb⟩; have n0_ := Aside0.mk (below_step HWy.out hb); clear HWy; have HWy := n0_; clear n0_ hb))
                    go_roundg (P.length - (i + 1))
                    case measure => have := HQ.out; have := HIL.out; omega
                    case rel => exact ⟨a, i + 1, rfl, by go_num, ⟨rfl, HIL.out⟩, HA2, ⟨below_step HW.out (by repeat (first | exact HWy.out | apply below_alloc | apply pw_below_drewN | apply below_drew1))⟩⟩
                  · obtain ⟨hbal, hiso, hnb⟩ := hfin
                    have HBAL := Aside0.mk hbal
                    clear hbal
                    cases hf : x.f2
                    · rw [hf] at y2
                      have hcb : (clsOf x.f0 == 11) = false := by simpa using hnb x hxm hf
                      clear hf hnb hxm hm
                      cases hard
                      · clear hiso
                        go_wp2_with (first | (go_at_call 16; refine (kclass_calls x.f0 _).mono ?_; rintro e w71 ⟨rfl, hb⟩; have n0_ := Aside0.mk (below_step HWy.out hb); clear HWy; have HWy := n0_; clear n0_ hb) | (go_at_call 17; refine (balN _ c1 p.f1 HNL.out _ (Kd.C_below HLp.out HWy.out) HL1.out HLEN.out HBAL.out).mono ?_; rintro e w72 ⟨rfl, hb⟩; have n0_ := Aside0.mk (below_step HWy.out hb); clear HWy; have HWy := n0_; clear n0_ hb))
                        go_roundg (P.length - (i + 1))
                        case measure => have := HQ.out; have := HIL.out; omega
                        case rel => exact ⟨a, i + 1, rfl, by go_num, ⟨rfl, HIL.out⟩, HA2, ⟨below_step HW.out (by repeat (first | exact HWy.out | apply below_alloc | apply pw_below_drewN | apply below_drew1))⟩⟩
                      · have HISO := Aside0.mk (hiso rfl)
                        clear hiso
                        go_wp2_with (first | (go_at_call 16; refine (kclass_calls x.f0 _).mono ?_; rintro e w71 ⟨rfl, hb⟩; have n0_ := Aside0.mk (below_step HWy.out hb); clear HWy; have HWy := n0_; clear n0_ hb) | (go_at_call 17; refine (balN _ c1 p.f1 HNL.out _ (Kd.C_below HLp.out HWy.out) HL1.out HLEN.out HBAL.out).mono ?_; rintro e w72 ⟨rfl, hb⟩; have n0_ := Aside0.mk (below_step HWy.out hb); clear HWy; have HWy := n0_; clear n0_ hb) | (go_at_call 18; refine (isoN _ c1 p.f1 HNL.out _ (Kd.C_below HLp.out HWy.out) HL1.out HLEN.out HISO.out).mono ?_; rintro e w72 ⟨rfl, hb⟩; have n0_ := Aside0.mk (below_step HWy.out hb); clear HWy; have HWy := n0_; clear n0_ hb))
                        go_roundg (P.length - (i + 1))
                        case measure => have := HQ.out; have := HIL.out; omega
                        case rel => exact ⟨a, i + 1, rfl, by go_num, ⟨rfl, HIL.out⟩, HA2, ⟨below_step HW.out (by repeat (first | exact HWy.out | apply below_alloc | apply pw_below_drewN | apply below_drew1))⟩⟩
                    · rw [hf] at y2
                      clear hf hnb hxm hm
                      cases hard
                      · clear hiso
                        go_wp2_with (first | (go_at_call 17; refine (balN _ c1 p.f1 HNL.out _ (Kd.C_below HLp.out HWy.out) HL1.out HLEN.out HBAL.out).mono ?_; rintro e w72 ⟨rfl, hb⟩; have n0_ := Aside0.mk (below_step HWy.out hb); clear HWy; have HWy := n0_; clear n0_ hb))
                        go_roundg (P.length - (i + 1))
                        case measure => have := HQ.out; have := HIL.out; omega
                        case rel => exact ⟨a, i + 1, rfl, by go_num, ⟨rfl, HIL.out⟩, HA2, ⟨below_step HW.out (by repeat (first | exact HWy.out | apply below_alloc | apply pw_below_drewN | apply below_drew1))⟩⟩
                      · have HISO := Aside0.mk (hiso rfl)
                        clear hiso
                        go_wp2_with (first | (go_at_call 17; refine (balN _ c1 p.f1 HNL.out _ (Kd.C_below HLp.out HWy.out) HL1.out HLEN.out HBAL.out).mono ?_; rintro e w72 ⟨rfl, hb⟩; have n0_ := Aside0.mk (below_step HWy.out hb); clear HWy; have HWy := n0_; clear n0_ hb) | (go_at_call 18; refine (isoN _ c1 p.f1 HNL.out _ (Kd.C_below HLp.out HWy.out) HL1.out HLEN.out HISO.out).mono ?_; rintro e w72 ⟨rfl, hb⟩; have n0_ := Aside0.mk (below_step HWy.out hb); clear HWy; have HWy := n0_; clear n0_ hb))
                        go_roundg (P.length - (i + 1))
                        case measure => have := HQ.out; have := HIL.out; omega
                        case rel => exact ⟨a, i + 1, rfl, by go_num, ⟨rfl, HIL.out⟩, HA2, ⟨below_step HW.out (by repeat (first | exact HWy.out | apply below_alloc | apply pw_below_drewN | apply below_drew1))⟩⟩
          · obtain rfl : i = P.length := by have := HQ.out.2; omega
            have hi2 : decide ((P.length : Int) < (P.length : Int)) = false := decide_eq_false (by omega)
            have HA2 := Aside0.mk (show a ≤ items.length ∧ cfA items a = [] by refine ⟨HA.out.1, ?_⟩; rw [← HA.out.2, List.drop_eq_nil_of_le (Nat.le_refl _)]; rfl)
            clear hi HA
            go_wp2
            go_loopg [9] (items.length - a) (fun gk v9 wr3 => ∃ at_ : Nat, v9 = .int .i64 (at_ : Int) ∧ Aside0 (gk = items.length - at_) ∧ Aside0 (at_ ≤ items.length ∧ cfA items at_ = []) ∧ Aside0 (Below wo.heap.size wo wr3))
            case atStart => exact ⟨a, rfl, ⟨rfl⟩, HA2, ⟨Below.refl _ _⟩⟩
            case round =>
              obtain ⟨a, rfl, HQ3, HA3, HW3⟩ := hrel
              by_cases hal : a < items.length
              · have HALT := Aside0.mk hal
                have hst := cfA_step items a hal
                rw [HA3.out.2] at hst
                obtain ⟨it, hit⟩ : ∃ it, items.getD a z47 = it := ⟨_, rfl⟩
                rw [hit] at hst
                have h3 : it.f0 ≠ 3 := fun h => by rw [if_pos h] at hst; cases hst
                rw [if_neg h3] at hst
                have h3b : (it.f0 != 3) = true := by simpa using h3
                have HA4 := Aside0.mk (show a + 1 ≤ items.length ∧ cfA items (a + 1) = [] from ⟨hal, hst.symm⟩)
                obtain ⟨ai, hA, i0, i1, i2, i3, i4⟩ := at_T47 (Kd.C_below HI.out (below_step (below_step HB.out HW.out) HW3.out)) (a : Int) (by omega) (by omega)
                cases hA
                rw [Int.toNat_natCast] at i0 i1 i2 i3 i4
                rw [show rd_T47 items (a : Int) = it from hit] at i0 i1 i2 i3 i4
                have qf : wr.cell? ⟨gb, 1, none⟩ = some (.slice (some ai) items.length cI) := (blk_cell (blk_below (blk_below Kb.out HW.out) HW3.out) 1).trans rfl
                have ha2 : decide ((a : Int) < (items.length : Int)) = true := decide_eq_true (by omega)
                have ha3 : (a : Int) < 1000000000 := by have := HL.out; omega
                have pa0 := eq_true (show 0 ≤ (a : Int) by omega)
                have pa1 := eq_true (show (a : Int) < (items.length : Int) by omega)
                clear hal hit hst h3 i1 i2 i3 i4
                go_wp2
                go_roundg (items.length - (a + 1))
                case measure => have := HQ3.out; have := HALT.out; omega
                case rel => exact ⟨a + 1, by go_num, ⟨rfl⟩, HA4, ⟨by repeat (first | exact HW3.out | apply below_alloc | apply pw_below_drewN | apply below_drew1)⟩⟩
              · obtain rfl : a = items.length := by have := HA3.out.1; omega
                have qf : wr.cell? ⟨gb, 1, none⟩ = some (.slice AI items.length cI) := (blk_cell (blk_below (blk_below Kb.out HW.out) HW3.out) 1).trans rfl
                have ha2 : decide ((items.length : Int) < (items.length : Int)) = false := decide_eq_false (by omega)
                have hll : ((items.length : Int) == (items.length : Int)) = true := by simp
                have n0_ := Aside0.mk (below_step HB.out (below_step HW.out HW3.out))
                clear HB hal
                have HB := n0_
                clear n0_
                go_wp2_with (first | (go_at_call 9; refine (selvedgelaw13_works.calls true _ HWK.out (HG.out.below (by repeat (first | (with_reducible first | exact HB.out | apply below_alloc | apply pw_below_drewN | apply below_drew1 | refine below_set ?_ GEb.out) | exact HB.out)))).mono ?_; rintro e wk ⟨rfl, hb⟩; have n0_ := Aside0.mk (below_step (by repeat (first | (with_reducible first | exact HB.out | apply below_alloc | apply pw_below_drewN | apply below_drew1 | refine below_set ?_ GEb.out) | exact HB.out)) hb); clear HB; have HB := n0_; clear n0_ hb))
                go_ret
                exact ⟨rfl, (by repeat (first | (with_reducible first | exact HB.out | apply below_alloc | apply pw_below_drewN | apply below_drew1 | refine below_set ?_ GEb.out) | exact HB.out))⟩
end Go.Proofs.YtlfpjlpaiaonkaaDoor.Sp

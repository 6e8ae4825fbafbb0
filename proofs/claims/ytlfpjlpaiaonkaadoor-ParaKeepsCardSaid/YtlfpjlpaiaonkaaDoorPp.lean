/- Layer 13, plain: what the program's splitter comes to, on lists. -/
import Derived.Test.YtlfpjlpaiaonkaaDoorGm
namespace Go.Proofs.YtlfpjlpaiaonkaaDoor.Sp
open Go.RowKit Go.Proofs.YtlfpjlpaiaonkaaDoorW.PrintWords Go.Proofs.YtlfpjlpaiaonkaaDoorW.PrintLast Go.Proofs.YtlfpjlpaiaonkaaDoorW.PrintMore Go.Proofs.YtlfpjlpaiaonkaaDoorH Go.Proofs.YtlfpjlpaiaonkaaDoor.P Go.Proofs.YtlfpjlpaiaonkaaDoor.Mp
set_option linter.unusedVariables false
set_option linter.unusedSimpArgs false
abbrev Sty := S52
abbrev Pos := S41
abbrev Par := S39
abbrev Opn := S98
abbrev kSty := k52
abbrev kPos := k41
abbrev kPar := k39
abbrev kOpn := k98
abbrev tInt : Nat := 3
abbrev tPos : Nat := 41
abbrev tPar : Nat := 39
abbrev tOpn : Nat := 98
abbrev tSp : Nat := 65
structure Sp where
  styles : List Sty
  block : Sty
  hard : Bool
  out : List Par
  base : Int
  L : List Pos
  brk : Int
  pieces : List Int
  opn : List Opn
  count : Int
  started : Bool
/-! ### The characters of a text -/
def Dec (s : ByteArray) : Nat → List Int → Prop
  | pos, [] => ¬ pos < s.size
  | pos, r :: rs => pos < s.size ∧ ((Utf8.decode s pos).1 : Int) = r ∧ Dec s (pos + (Utf8.decode s pos).2) rs
def Sp.put (S : Sp) (rs : List Int) (item : Int) : Sp := { S with L := S.L ++ rs.map (fun r => ⟨r, item, true⟩), pieces := S.pieces ++ rs.map (fun _ => 0) }
theorem Sp.put_nil (S : Sp) (item : Int) : S.put [] item = S := by simp [Sp.put]
theorem Sp.put_cons (S : Sp) (r : Int) (rs : List Int) (item : Int) : S.put (r :: rs) item = Sp.put { S with L := S.L ++ [⟨r, item, true⟩], pieces := S.pieces ++ [0] } rs item := by simp [Sp.put]
/-- The controls, ahead and behind: as texts, as characters. -/
def ctl (b d : Int) : ByteArray × ByteArray :=
  if b = 1 then (if d = 0 then ⟨#[226, 128, 170]⟩ else ⟨#[226, 128, 171]⟩, ⟨#[226, 128, 172]⟩)
  else if b = 2 then (if d = 0 then ⟨#[226, 129, 166]⟩ else ⟨#[226, 129, 167]⟩, ⟨#[226, 129, 169]⟩)
  else if b = 3 then (if d = 0 then ⟨#[226, 128, 173]⟩ else ⟨#[226, 128, 174]⟩, ⟨#[226, 128, 172]⟩)
  else if b = 4 then (if d = 0 then ⟨#[226, 129, 168, 226, 128, 173]⟩ else ⟨#[226, 129, 168, 226, 128, 174]⟩, ⟨#[226, 128, 172, 226, 129, 169]⟩)
  else if b = 5 then (⟨#[226, 129, 168]⟩, ⟨#[226, 129, 169]⟩)
  else (⟨#[]⟩, ⟨#[]⟩)
def ctlR (b d : Int) : List Int × List Int :=
  if b = 1 then (if d = 0 then [0x202a] else [0x202b], [0x202c])
  else if b = 2 then (if d = 0 then [0x2066] else [0x2067], [0x2069])
  else if b = 3 then (if d = 0 then [0x202d] else [0x202e], [0x202c])
  else if b = 4 then (if d = 0 then [0x2068, 0x202d] else [0x2068, 0x202e], [0x202c, 0x2069])
  else if b = 5 then ([0x2068], [0x2069])
  else ([], [])
theorem dec_none : Dec ⟨#[]⟩ 0 [] := by unfold Dec; decide
theorem size3 (a b c : UInt8) : (⟨#[a, b, c]⟩ : ByteArray).size = 3 := rfl
theorem size6 (a b c d e f : UInt8) : (⟨#[a, b, c, d, e, f]⟩ : ByteArray).size = 6 := rfl
theorem dec_one (a b c : UInt8) (r : Int) (h : Utf8.decode ⟨#[a, b, c]⟩ 0 = (r.toNat, 3)) (hr : 0 ≤ r) : Dec ⟨#[a, b, c]⟩ 0 [r] := by
  unfold Dec
  rw [h, size3]
  unfold Dec
  rw [size3]
  exact ⟨by omega, by simp only; omega, by simp⟩
theorem dec_two (a b c d e f : UInt8) (r q : Int) (h : Utf8.decode ⟨#[a, b, c, d, e, f]⟩ 0 = (r.toNat, 3)) (h' : Utf8.decode ⟨#[a, b, c, d, e, f]⟩ 3 = (q.toNat, 3)) (hr : 0 ≤ r) (hq : 0 ≤ q) : Dec ⟨#[a, b, c, d, e, f]⟩ 0 [r, q] := by
  unfold Dec
  rw [h, size6]
  unfold Dec
  simp only [Nat.zero_add]
  rw [h', size6]
  unfold Dec
  rw [size6]
  exact ⟨by omega, by omega, by omega, by simp only; omega, by simp⟩
theorem ctl_dec (b d : Int) : Dec (ctl b d).1 0 (ctlR b d).1 ∧ Dec (ctl b d).2 0 (ctlR b d).2 := by
  unfold ctl ctlR
  repeat' split
  all_goals first
    | exact ⟨dec_none, dec_none⟩
    | exact ⟨dec_one _ _ _ _ (by kernel_rfl) (by decide), dec_one _ _ _ _ (by kernel_rfl) (by decide)⟩
    | exact ⟨dec_two _ _ _ _ _ _ _ _ (by kernel_rfl) (by kernel_rfl) (by decide) (by decide), dec_two _ _ _ _ _ _ _ _ (by kernel_rfl) (by kernel_rfl) (by decide) (by decide)⟩
    | omega
theorem ctlR_len (b d : Int) : (ctlR b d).1.length ≤ 2 ∧ (ctlR b d).2.length ≤ 2 := by
  unfold ctlR
  repeat' split
  all_goals simp
def isoB (s : Sty) : Bool := decide (s.f2 = 2) || decide (s.f2 = 4) || decide (s.f2 = 5)
/-- A box is entered: the controls ahead, its piece. -/
def Sp.enter (S : Sp) (o : Opn) (outer : Int) : Sp × Int :=
  let S1 := S.put (ctlR o.f1.f2 o.f1.f1).1 o.f0
  if isoB o.f1 = true then ({ S1 with count := S1.count + 1 }, S1.count + 1) else (S1, outer)
def Sp.enterFrom : Nat → Nat → Int → Sp → Sp
  | 0, _, _, S => S
  | n + 1, i, outer, S =>
    let o := S.opn.getD i z98
    let E := S.enter o outer
    enterFrom n (i + 1) E.2 { E.1 with opn := E.1.opn.set i { o with f2 := E.2 } }
def overB (s : Sty) : Bool := decide (s.f2 = 3) || decide (s.f2 = 4)
def Sp.close (S : Sp) : Sp := if overB S.block = true then S.put [0x202c] (-1) else S
def Sp.begin_ (S : Sp) : Sp :=
  let S0 : Sp := { S with base := if S.block.f2 = 5 then 2 else S.block.f1, L := [], brk := -1, pieces := [], started := false }
  let S1 := if overB S.block = true then S0.put (ctlR 3 S.block.f1).1 (-1) else S0
  Sp.enterFrom S1.opn.length 0 0 S1
def Sp.inner (S : Sp) : Int := if S.opn.length = 0 then 0 else (S.opn.getD (S.opn.length - 1) z98).f2
/-- A place's character becomes U+FFFD. -/
def fixL (L : List Pos) (i : Nat) : List Pos := L.set i { L.getD i z41 with f0 := 65533 }
def markL (L : List Pos) (ps : List Int) : List Pos := L.zipIdx.map fun p => if (p.2 : Int) ∈ ps then { p.1 with f0 := 65533 } else p.1
/-- The first round over the places: the groups that wait, the places. -/
def hard1 (pieces : List Int) : Nat → Nat → List (Int × List Int) → List Pos → List (Int × List Int) × List Pos
  | 0, _, G, L => (G, L)
  | n + 1, i, G, L =>
    let pc := pieces.getD i 0
    let c := clsOf (L.getD i z41).f0
    if pc = 0 then hard1 pieces n (i + 1) G L
    else if c = 20 ∨ c = 21 ∨ c = 22 then hard1 pieces n (i + 1) (putI pc (rowI pc G ++ [(i : Int)]) G) L
    else if c = 23 then
      if 0 < (rowI pc G).length then hard1 pieces n (i + 1) (putI pc ((rowI pc G).take ((rowI pc G).length - 1)) G) L
      else hard1 pieces n (i + 1) G (fixL L i)
    else hard1 pieces n (i + 1) G L
def Sp.harden (S : Sp) : Sp :=
  let r := hard1 S.pieces S.L.length 0 [] S.L
  { S with L := markL r.2 (r.1.flatMap (·.2)) }
theorem fixL_len (L : List Pos) (i : Nat) : (fixL L i).length = L.length := by simp [fixL]
theorem markL_len (L : List Pos) (ps : List Int) : (markL L ps).length = L.length := by simp [markL]
theorem markL_get (L : List Pos) (ps : List Int) (j : Nat) : (markL L ps)[j]? = (L[j]?).map fun p => if (j : Int) ∈ ps then { p with f0 := 65533 } else p := by
  unfold markL
  rw [List.getElem?_map, List.getElem?_zipIdx]
  cases L[j]? <;> simp
theorem markL_nil (L : List Pos) : markL L [] = L := by
  apply List.ext_getElem?
  intro j
  rw [markL_get]
  cases L[j]? <;> simp
theorem markL_congr (L : List Pos) (ps qs : List Int) (h : ∀ i, i ∈ ps ↔ i ∈ qs) : markL L ps = markL L qs := by
  apply List.ext_getElem?
  intro j
  rw [markL_get, markL_get]
  cases L[j]? <;> simp [h]
theorem markL_fix (L : List Pos) (ps : List Int) (i : Nat) (hi : i < L.length) : fixL (markL L ps) i = markL L (ps ++ [(i : Int)]) := by
  apply List.ext_getElem?
  intro j
  unfold fixL
  rw [markL_get]
  by_cases hj : i = j
  · subst hj
    have h1 : (markL L ps)[i]? = some (if (i : Int) ∈ ps then { L[i] with f0 := 65533 } else L[i]) := by rw [markL_get, List.getElem?_eq_getElem hi]; rfl
    rw [List.getElem?_set_self (by rw [markL_len]; exact hi), List.getD_eq_getElem?_getD, h1, List.getElem?_eq_getElem hi]
    simp
    split <;> exact ⟨rfl, rfl⟩
  · rw [List.getElem?_set_ne hj, markL_get]
    cases L[j]? with
    | none => rfl
    | some p =>
      have : ¬ (j : Int) = (i : Int) := by omega
      simp [this]
end Go.Proofs.YtlfpjlpaiaonkaaDoor.Sp

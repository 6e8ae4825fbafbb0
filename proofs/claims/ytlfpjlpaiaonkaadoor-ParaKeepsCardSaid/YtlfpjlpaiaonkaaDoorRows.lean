/-
  NARROWER THAN 'FOR EVERY INPUT', by the rows' own cells (each row's printed sentence says how): ParaSplits: laid · ParaControls: laid · ParaKeeps: laid · ParaKnown: laid · ParaPlain: laid · ParaBreaks: laid.
  DERIVED. THE GIVEN ROWS OF THIS SEAT. 6 by the template 'for every input the law returns true; each argument reads behind the call as it read before'; 0 by the template 'total and deterministic' (their statements: YtlfpjlpaiaonkaaDoorTotals.lean).
  GIVEN WITH THE SEED: the statements are not yours to turn. If you find one false, say at which input.
  Laid BY PROGRAM, IN A SANDBOX (cutbox-rows.mjs): the forced cells as the released guide's own fill.sh prints them over the translation 2170d7b16ec0353c… (all of the seat's roots in one cut). By AI agents, Wed Nov 11 2026. No macro, syntax, notation, axiom, sorry.
-/
import Derived.Test.YtlfpjlpaiaonkaaDoorChecked
import GoSem.Claim
import GoSem.ClaimJoined
import GoSem.ClaimMapViews
import Derived.JoinedTies
import Derived.KernelRfl
namespace Go.Proofs.YtlfpjlpaiaonkaaDoor
/- THE CELL 'sum', in the pinned program and in every row, IS THE sha256 OF THE DUMP (.gsa) THAT YtlfpjlpaiaonkaaDoorProg.lean LOADS. Nothing in Lean hashes anything: it is a label: what it is worth is what the hold of that sum in a sandbox is worth. -/
noncomputable def Tryd.pinned : Pinned := { name := "ytlfpjlpaiaonkaadoor", sum := "2170d7b16ec0353c1b3b7807b0174bda99e0cb126be6b3b6f29aeff589afe89a", checked := Tryd.checked }
namespace Rows
def none {H : Type} : Left H := { results := [], args := [] }

/- WHAT THE LISTED PACKAGE-LEVEL VARIABLES READ AS WHEN THE CALL BEGINS. Each datum BY PROGRAM (the guide's laid-datum.mjs) off the statement by which the dump's own 'gosem.cut.vars' lays the variable. In a bare row this is a premise. The card (YtlfpjlpaiaonkaaDoorCards.lean) ties it to the program's text. -/
def laid_selvedge_para_rows {H : Type} : DataW H := .agg [.agg [.agg [.lit (.string []), .lit (.string [])], .lit (.string [])], .agg [.agg [.lit (.string [226, 128, 170]), .lit (.string [226, 128, 171])], .lit (.string [226, 128, 172])], .agg [.agg [.lit (.string [226, 129, 166]), .lit (.string [226, 129, 167])], .lit (.string [226, 129, 169])], .agg [.agg [.lit (.string [226, 128, 173]), .lit (.string [226, 128, 174])], .lit (.string [226, 128, 172])], .agg [.agg [.lit (.string [226, 129, 168, 226, 128, 173]), .lit (.string [226, 129, 168, 226, 128, 174])], .lit (.string [226, 128, 172, 226, 129, 169])], .agg [.agg [.lit (.string [226, 129, 168]), .lit (.string [226, 129, 168])], .lit (.string [226, 129, 169])]]

/-- 'selvedgelaw13.ParaSplits': WHATEVER THE INPUT: true; the input reads as it did. -/
def paraSplitsSpec : ChangeSpec := { name := "paraSplits", fn := fun _ => fun
  | [d1, d2, d3] => { results := [.lit (.bool true)], args := [d1, d2, d3] }
  | _ => none }
def paraSplitsRow : OpenClaim := { program := "ytlfpjlpaiaonkaadoor", sum := "2170d7b16ec0353c1b3b7807b0174bda99e0cb126be6b3b6f29aeff589afe89a", func := "selvedge/selvedgelaw13.ParaSplits", spec := "paraSplits", unfollowed := true, recurses := true, named := ["selvedge/para.rows"], apart := false, laid := [("selvedge/para.rows", laid_selvedge_para_rows)] }
def ParaSplitsSaid : Prop := paraSplitsRow.holds Tryd.pinned (OpenSpec.ofChange paraSplitsSpec)

/-- ITS FALSE NEIGHBOUR: 'it returns false'. Refute it at one input. -/
def paraSplitsWrong : ChangeSpec := { name := "paraSplits", fn := fun _ => fun
  | [d1, d2, d3] => { results := [.lit (.bool false)], args := [d1, d2, d3] }
  | _ => none }
def ParaSplitsWrongFalsely : Prop := paraSplitsRow.holds Tryd.pinned (OpenSpec.ofChange paraSplitsWrong)

/-- 'selvedgelaw13.ParaControls': WHATEVER THE INPUT: true; the input reads as it did. -/
def paraControlsSpec : ChangeSpec := { name := "paraControls", fn := fun _ => fun
  | [d1, d2] => { results := [.lit (.bool true)], args := [d1, d2] }
  | _ => none }
def paraControlsRow : OpenClaim := { program := "ytlfpjlpaiaonkaadoor", sum := "2170d7b16ec0353c1b3b7807b0174bda99e0cb126be6b3b6f29aeff589afe89a", func := "selvedge/selvedgelaw13.ParaControls", spec := "paraControls", unfollowed := true, recurses := true, named := ["selvedge/para.rows"], apart := false, laid := [("selvedge/para.rows", laid_selvedge_para_rows)] }
def ParaControlsSaid : Prop := paraControlsRow.holds Tryd.pinned (OpenSpec.ofChange paraControlsSpec)

/-- ITS FALSE NEIGHBOUR: 'it returns false'. Refute it at one input. -/
def paraControlsWrong : ChangeSpec := { name := "paraControls", fn := fun _ => fun
  | [d1, d2] => { results := [.lit (.bool false)], args := [d1, d2] }
  | _ => none }
def ParaControlsWrongFalsely : Prop := paraControlsRow.holds Tryd.pinned (OpenSpec.ofChange paraControlsWrong)

/-- 'selvedgelaw13.ParaKeeps': WHATEVER THE INPUT: true; the input reads as it did. -/
def paraKeepsSpec : ChangeSpec := { name := "paraKeeps", fn := fun _ => fun
  | [d1, d2, d3] => { results := [.lit (.bool true)], args := [d1, d2, d3] }
  | _ => none }
def paraKeepsRow : OpenClaim := { program := "ytlfpjlpaiaonkaadoor", sum := "2170d7b16ec0353c1b3b7807b0174bda99e0cb126be6b3b6f29aeff589afe89a", func := "selvedge/selvedgelaw13.ParaKeeps", spec := "paraKeeps", unfollowed := true, recurses := true, named := ["selvedge/para.rows"], apart := false, laid := [("selvedge/para.rows", laid_selvedge_para_rows)] }
def ParaKeepsSaid : Prop := paraKeepsRow.holds Tryd.pinned (OpenSpec.ofChange paraKeepsSpec)

/-- ITS FALSE NEIGHBOUR: 'it returns false'. Refute it at one input. -/
def paraKeepsWrong : ChangeSpec := { name := "paraKeeps", fn := fun _ => fun
  | [d1, d2, d3] => { results := [.lit (.bool false)], args := [d1, d2, d3] }
  | _ => none }
def ParaKeepsWrongFalsely : Prop := paraKeepsRow.holds Tryd.pinned (OpenSpec.ofChange paraKeepsWrong)

/-- 'selvedgelaw13.ParaKnown': WHATEVER THE INPUT: true; the input reads as it did. -/
def paraKnownSpec : ChangeSpec := { name := "paraKnown", fn := fun _ => fun
  | [] => { results := [.lit (.bool true)], args := [] }
  | _ => none }
def paraKnownRow : OpenClaim := { program := "ytlfpjlpaiaonkaadoor", sum := "2170d7b16ec0353c1b3b7807b0174bda99e0cb126be6b3b6f29aeff589afe89a", func := "selvedge/selvedgelaw13.ParaKnown", spec := "paraKnown", unfollowed := true, recurses := true, named := ["selvedge/para.rows"], apart := false, laid := [("selvedge/para.rows", laid_selvedge_para_rows)] }
def ParaKnownSaid : Prop := paraKnownRow.holds Tryd.pinned (OpenSpec.ofChange paraKnownSpec)

/-- ITS FALSE NEIGHBOUR: 'it returns false'. Refute it at one input. -/
def paraKnownWrong : ChangeSpec := { name := "paraKnown", fn := fun _ => fun
  | [] => { results := [.lit (.bool false)], args := [] }
  | _ => none }
def ParaKnownWrongFalsely : Prop := paraKnownRow.holds Tryd.pinned (OpenSpec.ofChange paraKnownWrong)

/-- 'selvedgelaw13.ParaPlain': WHATEVER THE INPUT: true; the input reads as it did. -/
def paraPlainSpec : ChangeSpec := { name := "paraPlain", fn := fun _ => fun
  | [d1, d2] => { results := [.lit (.bool true)], args := [d1, d2] }
  | _ => none }
def paraPlainRow : OpenClaim := { program := "ytlfpjlpaiaonkaadoor", sum := "2170d7b16ec0353c1b3b7807b0174bda99e0cb126be6b3b6f29aeff589afe89a", func := "selvedge/selvedgelaw13.ParaPlain", spec := "paraPlain", unfollowed := true, recurses := true, named := ["selvedge/para.rows"], apart := false, laid := [("selvedge/para.rows", laid_selvedge_para_rows)] }
def ParaPlainSaid : Prop := paraPlainRow.holds Tryd.pinned (OpenSpec.ofChange paraPlainSpec)

/-- ITS FALSE NEIGHBOUR: 'it returns false'. Refute it at one input. -/
def paraPlainWrong : ChangeSpec := { name := "paraPlain", fn := fun _ => fun
  | [d1, d2] => { results := [.lit (.bool false)], args := [d1, d2] }
  | _ => none }
def ParaPlainWrongFalsely : Prop := paraPlainRow.holds Tryd.pinned (OpenSpec.ofChange paraPlainWrong)

/-- 'selvedgelaw13.ParaBreaks': WHATEVER THE INPUT: true; the input reads as it did. -/
def paraBreaksSpec : ChangeSpec := { name := "paraBreaks", fn := fun _ => fun
  | [d1, d2, d3] => { results := [.lit (.bool true)], args := [d1, d2, d3] }
  | _ => none }
def paraBreaksRow : OpenClaim := { program := "ytlfpjlpaiaonkaadoor", sum := "2170d7b16ec0353c1b3b7807b0174bda99e0cb126be6b3b6f29aeff589afe89a", func := "selvedge/selvedgelaw13.ParaBreaks", spec := "paraBreaks", unfollowed := true, recurses := true, named := ["selvedge/para.rows"], apart := false, laid := [("selvedge/para.rows", laid_selvedge_para_rows)] }
def ParaBreaksSaid : Prop := paraBreaksRow.holds Tryd.pinned (OpenSpec.ofChange paraBreaksSpec)

/-- ITS FALSE NEIGHBOUR: 'it returns false'. Refute it at one input. -/
def paraBreaksWrong : ChangeSpec := { name := "paraBreaks", fn := fun _ => fun
  | [d1, d2, d3] => { results := [.lit (.bool false)], args := [d1, d2, d3] }
  | _ => none }
def ParaBreaksWrongFalsely : Prop := paraBreaksRow.holds Tryd.pinned (OpenSpec.ofChange paraBreaksWrong)

/- THE SECOND FORM. 'bulk': how many values and letters a reading holds, each counted each time it is reached (what is shared counts as often as it is met; a slice's spare places count too). A statement '..UptoSaid' is the law's where the arguments, and the package variables that the reading takes, are together of bulk at most 1048576: NARROWER than '..Said'. Prove '..Said' where nothing that the law and all that it calls make is longer than what came in: it says more and counts as full. Else prove '..UptoSaid'. A law counts once. -/
mutual
def uptoBulk {H : Type} : DataW H → Nat
  | .lit (.string bytes) => bytes.length + 1
  | .lit _ => 1
  | .nil => 1
  | .ptr d => uptoBulk d + 1
  | .slice elems spare => uptoBulkAll elems + uptoBulkAll spare + 1
  | .agg parts => uptoBulkAll parts + 1
  | .iface _ d => uptoBulk d + 1
  | .map entries => uptoBulkEntries entries + 1
  | .held _ => 1
def uptoBulkAll {H : Type} : List (DataW H) → Nat
  | [] => 0
  | d :: r => uptoBulk d + uptoBulkAll r
def uptoBulkEntries {H : Type} : List (Lit × DataW H) → Nat
  | [] => 0
  | x :: r => uptoBulkEntry x + uptoBulkEntries r
def uptoBulkEntry {H : Type} : Lit × DataW H → Nat
  | (.string bytes, d) => bytes.length + uptoBulk d + 1
  | (_, d) => uptoBulk d + 1
 end
def uptoSmall : (H : Type) → List (DataW H) → Bool := fun _ ds => decide (uptoBulkAll ds ≤ 1048576)
def OpenSpec.upto (s : _root_.Go.ChangeSpec) : _root_.Go.OpenSpec := { _root_.Go.OpenSpec.ofChange s with cond := some uptoSmall }

/-- 'selvedgelaw13.ParaSplits', WHERE WHAT IT READS IS OF BULK AT MOST 1048576: true; the input reads as it did. -/
def paraSplitsUptoRow : OpenClaim := { program := "ytlfpjlpaiaonkaadoor", sum := "2170d7b16ec0353c1b3b7807b0174bda99e0cb126be6b3b6f29aeff589afe89a", func := "selvedge/selvedgelaw13.ParaSplits", spec := "paraSplits", unfollowed := true, recurses := true, named := ["selvedge/para.rows"], apart := false, laid := [("selvedge/para.rows", laid_selvedge_para_rows)], narrowed := true }
def ParaSplitsUptoSaid : Prop := paraSplitsUptoRow.holds Tryd.pinned (OpenSpec.upto paraSplitsSpec)

/-- 'selvedgelaw13.ParaControls', WHERE WHAT IT READS IS OF BULK AT MOST 1048576: true; the input reads as it did. -/
def paraControlsUptoRow : OpenClaim := { program := "ytlfpjlpaiaonkaadoor", sum := "2170d7b16ec0353c1b3b7807b0174bda99e0cb126be6b3b6f29aeff589afe89a", func := "selvedge/selvedgelaw13.ParaControls", spec := "paraControls", unfollowed := true, recurses := true, named := ["selvedge/para.rows"], apart := false, laid := [("selvedge/para.rows", laid_selvedge_para_rows)], narrowed := true }
def ParaControlsUptoSaid : Prop := paraControlsUptoRow.holds Tryd.pinned (OpenSpec.upto paraControlsSpec)

/-- 'selvedgelaw13.ParaKeeps', WHERE WHAT IT READS IS OF BULK AT MOST 1048576: true; the input reads as it did. -/
def paraKeepsUptoRow : OpenClaim := { program := "ytlfpjlpaiaonkaadoor", sum := "2170d7b16ec0353c1b3b7807b0174bda99e0cb126be6b3b6f29aeff589afe89a", func := "selvedge/selvedgelaw13.ParaKeeps", spec := "paraKeeps", unfollowed := true, recurses := true, named := ["selvedge/para.rows"], apart := false, laid := [("selvedge/para.rows", laid_selvedge_para_rows)], narrowed := true }
def ParaKeepsUptoSaid : Prop := paraKeepsUptoRow.holds Tryd.pinned (OpenSpec.upto paraKeepsSpec)

/-- 'selvedgelaw13.ParaKnown', WHERE WHAT IT READS IS OF BULK AT MOST 1048576: true; the input reads as it did. -/
def paraKnownUptoRow : OpenClaim := { program := "ytlfpjlpaiaonkaadoor", sum := "2170d7b16ec0353c1b3b7807b0174bda99e0cb126be6b3b6f29aeff589afe89a", func := "selvedge/selvedgelaw13.ParaKnown", spec := "paraKnown", unfollowed := true, recurses := true, named := ["selvedge/para.rows"], apart := false, laid := [("selvedge/para.rows", laid_selvedge_para_rows)], narrowed := true }
def ParaKnownUptoSaid : Prop := paraKnownUptoRow.holds Tryd.pinned (OpenSpec.upto paraKnownSpec)

/-- 'selvedgelaw13.ParaPlain', WHERE WHAT IT READS IS OF BULK AT MOST 1048576: true; the input reads as it did. -/
def paraPlainUptoRow : OpenClaim := { program := "ytlfpjlpaiaonkaadoor", sum := "2170d7b16ec0353c1b3b7807b0174bda99e0cb126be6b3b6f29aeff589afe89a", func := "selvedge/selvedgelaw13.ParaPlain", spec := "paraPlain", unfollowed := true, recurses := true, named := ["selvedge/para.rows"], apart := false, laid := [("selvedge/para.rows", laid_selvedge_para_rows)], narrowed := true }
def ParaPlainUptoSaid : Prop := paraPlainUptoRow.holds Tryd.pinned (OpenSpec.upto paraPlainSpec)

/-- 'selvedgelaw13.ParaBreaks', WHERE WHAT IT READS IS OF BULK AT MOST 1048576: true; the input reads as it did. -/
def paraBreaksUptoRow : OpenClaim := { program := "ytlfpjlpaiaonkaadoor", sum := "2170d7b16ec0353c1b3b7807b0174bda99e0cb126be6b3b6f29aeff589afe89a", func := "selvedge/selvedgelaw13.ParaBreaks", spec := "paraBreaks", unfollowed := true, recurses := true, named := ["selvedge/para.rows"], apart := false, laid := [("selvedge/para.rows", laid_selvedge_para_rows)], narrowed := true }
def ParaBreaksUptoSaid : Prop := paraBreaksUptoRow.holds Tryd.pinned (OpenSpec.upto paraBreaksSpec)

end Rows
end Go.Proofs.YtlfpjlpaiaonkaaDoor

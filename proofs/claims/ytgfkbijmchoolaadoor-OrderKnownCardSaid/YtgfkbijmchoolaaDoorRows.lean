/-
  NARROWER THAN 'FOR EVERY INPUT', by the rows' own cells (each row's printed sentence says how): OrderResets: laid · OrderTurns: laid · OrderMirrors: laid · OrderAgain: laid · OrderBackward: laid · OrderShows: laid · OrderKnown: laid · OrderEven: laid.
  DERIVED. THE GIVEN ROWS OF THIS SEAT. 8 by the template 'for every input the law returns true; each argument reads behind the call as it read before'; 0 by the template 'total and deterministic' (their statements: YtgfkbijmchoolaaDoorTotals.lean).
  GIVEN WITH THE SEED: the statements are not yours to turn. If you find one false, say at which input.
  Laid BY PROGRAM, IN A SANDBOX (cutbox-rows.mjs): the forced cells as the released guide's own fill.sh prints them over the translation 0b1b688e917af0af… (all of the seat's roots in one cut). By AI agents, Wed Nov 11 2026. No macro, syntax, notation, axiom, sorry.
-/
import Derived.Test.YtgfkbijmchoolaaDoorChecked
import GoSem.Claim
import GoSem.ClaimJoined
import GoSem.ClaimMapViews
import Derived.JoinedTies
import Derived.KernelRfl
namespace Go.Proofs.YtgfkbijmchoolaaDoor
/- THE CELL 'sum', in the pinned program and in every row, IS THE sha256 OF THE DUMP (.gsa) THAT YtgfkbijmchoolaaDoorProg.lean LOADS. Nothing in Lean hashes anything: it is a label: what it is worth is what the hold of that sum in a sandbox is worth. -/
noncomputable def Tryd.pinned : Pinned := { name := "ytgfkbijmchoolaadoor", sum := "0b1b688e917af0aff39d6a252b384d6d9569f5814280e7d27e827975f864c9a4", checked := Tryd.checked }
namespace Rows
def none {H : Type} : Left H := { results := [], args := [] }

/- WHAT THE LISTED PACKAGE-LEVEL VARIABLES READ AS WHEN THE CALL BEGINS. Each datum BY PROGRAM (the guide's laid-datum.mjs) off the statement by which the dump's own 'gosem.cut.vars' lays the variable. In a bare row this is a premise. The card (YtgfkbijmchoolaaDoorCards.lean) ties it to the program's text. -/
def laid_selvedge_props_brackets {H : Type} : DataW H := .agg [.agg [.lit (.int .i32 40), .lit (.int .i32 41)], .agg [.lit (.int .i32 91), .lit (.int .i32 93)], .agg [.lit (.int .i32 123), .lit (.int .i32 125)], .agg [.lit (.int .i32 8261), .lit (.int .i32 8262)], .agg [.lit (.int .i32 8317), .lit (.int .i32 8318)], .agg [.lit (.int .i32 8333), .lit (.int .i32 8334)], .agg [.lit (.int .i32 8968), .lit (.int .i32 8969)], .agg [.lit (.int .i32 8970), .lit (.int .i32 8971)], .agg [.lit (.int .i32 9001), .lit (.int .i32 9002)], .agg [.lit (.int .i32 10214), .lit (.int .i32 10215)], .agg [.lit (.int .i32 10216), .lit (.int .i32 10217)], .agg [.lit (.int .i32 10218), .lit (.int .i32 10219)], .agg [.lit (.int .i32 10220), .lit (.int .i32 10221)], .agg [.lit (.int .i32 10222), .lit (.int .i32 10223)], .agg [.lit (.int .i32 12296), .lit (.int .i32 12297)], .agg [.lit (.int .i32 12298), .lit (.int .i32 12299)], .agg [.lit (.int .i32 12300), .lit (.int .i32 12301)], .agg [.lit (.int .i32 12302), .lit (.int .i32 12303)], .agg [.lit (.int .i32 12304), .lit (.int .i32 12305)], .agg [.lit (.int .i32 12308), .lit (.int .i32 12309)], .agg [.lit (.int .i32 12310), .lit (.int .i32 12311)], .agg [.lit (.int .i32 12312), .lit (.int .i32 12313)], .agg [.lit (.int .i32 12314), .lit (.int .i32 12315)]]
def laid_selvedge_props_mirrors {H : Type} : DataW H := .agg [.agg [.lit (.int .i32 60), .lit (.int .i32 62)], .agg [.lit (.int .i32 171), .lit (.int .i32 187)], .agg [.lit (.int .i32 8249), .lit (.int .i32 8250)], .agg [.lit (.int .i32 8712), .lit (.int .i32 8715)], .agg [.lit (.int .i32 8804), .lit (.int .i32 8805)], .agg [.lit (.int .i32 8810), .lit (.int .i32 8811)], .agg [.lit (.int .i32 8834), .lit (.int .i32 8835)]]

/-- 'selvedgelaw20.OrderResets': WHATEVER THE INPUT: true; the input reads as it did. -/
def orderResetsSpec : ChangeSpec := { name := "orderResets", fn := fun _ => fun
  | [d1, d2, d3, d4, d5] => { results := [.lit (.bool true)], args := [d1, d2, d3, d4, d5] }
  | _ => none }
def orderResetsRow : OpenClaim := { program := "ytgfkbijmchoolaadoor", sum := "0b1b688e917af0aff39d6a252b384d6d9569f5814280e7d27e827975f864c9a4", func := "selvedge/selvedgelaw20.OrderResets", spec := "orderResets", named := ["selvedge/props.brackets", "selvedge/props.mirrors"], apart := false, laid := [("selvedge/props.brackets", laid_selvedge_props_brackets), ("selvedge/props.mirrors", laid_selvedge_props_mirrors)] }
def OrderResetsSaid : Prop := orderResetsRow.holds Tryd.pinned (OpenSpec.ofChange orderResetsSpec)

/-- ITS FALSE NEIGHBOUR: 'it returns false'. Refute it at one input. -/
def orderResetsWrong : ChangeSpec := { name := "orderResets", fn := fun _ => fun
  | [d1, d2, d3, d4, d5] => { results := [.lit (.bool false)], args := [d1, d2, d3, d4, d5] }
  | _ => none }
def OrderResetsWrongFalsely : Prop := orderResetsRow.holds Tryd.pinned (OpenSpec.ofChange orderResetsWrong)

/-- 'selvedgelaw20.OrderTurns': WHATEVER THE INPUT: true; the input reads as it did. -/
def orderTurnsSpec : ChangeSpec := { name := "orderTurns", fn := fun _ => fun
  | [d] => { results := [.lit (.bool true)], args := [d] }
  | _ => none }
def orderTurnsRow : OpenClaim := { program := "ytgfkbijmchoolaadoor", sum := "0b1b688e917af0aff39d6a252b384d6d9569f5814280e7d27e827975f864c9a4", func := "selvedge/selvedgelaw20.OrderTurns", spec := "orderTurns", named := ["selvedge/props.brackets", "selvedge/props.mirrors"], apart := false, laid := [("selvedge/props.brackets", laid_selvedge_props_brackets), ("selvedge/props.mirrors", laid_selvedge_props_mirrors)] }
def OrderTurnsSaid : Prop := orderTurnsRow.holds Tryd.pinned (OpenSpec.ofChange orderTurnsSpec)

/-- ITS FALSE NEIGHBOUR: 'it returns false'. Refute it at one input. -/
def orderTurnsWrong : ChangeSpec := { name := "orderTurns", fn := fun _ => fun
  | [d] => { results := [.lit (.bool false)], args := [d] }
  | _ => none }
def OrderTurnsWrongFalsely : Prop := orderTurnsRow.holds Tryd.pinned (OpenSpec.ofChange orderTurnsWrong)

/-- 'selvedgelaw20.OrderMirrors': WHATEVER THE INPUT: true; the input reads as it did. -/
def orderMirrorsSpec : ChangeSpec := { name := "orderMirrors", fn := fun _ => fun
  | [d1, d2] => { results := [.lit (.bool true)], args := [d1, d2] }
  | _ => none }
def orderMirrorsRow : OpenClaim := { program := "ytgfkbijmchoolaadoor", sum := "0b1b688e917af0aff39d6a252b384d6d9569f5814280e7d27e827975f864c9a4", func := "selvedge/selvedgelaw20.OrderMirrors", spec := "orderMirrors", named := ["selvedge/props.brackets", "selvedge/props.mirrors"], apart := false, laid := [("selvedge/props.brackets", laid_selvedge_props_brackets), ("selvedge/props.mirrors", laid_selvedge_props_mirrors)] }
def OrderMirrorsSaid : Prop := orderMirrorsRow.holds Tryd.pinned (OpenSpec.ofChange orderMirrorsSpec)

/-- ITS FALSE NEIGHBOUR: 'it returns false'. Refute it at one input. -/
def orderMirrorsWrong : ChangeSpec := { name := "orderMirrors", fn := fun _ => fun
  | [d1, d2] => { results := [.lit (.bool false)], args := [d1, d2] }
  | _ => none }
def OrderMirrorsWrongFalsely : Prop := orderMirrorsRow.holds Tryd.pinned (OpenSpec.ofChange orderMirrorsWrong)

/-- 'selvedgelaw20.OrderAgain': WHATEVER THE INPUT: true; the input reads as it did. -/
def orderAgainSpec : ChangeSpec := { name := "orderAgain", fn := fun _ => fun
  | [d1, d2, d3, d4, d5] => { results := [.lit (.bool true)], args := [d1, d2, d3, d4, d5] }
  | _ => none }
def orderAgainRow : OpenClaim := { program := "ytgfkbijmchoolaadoor", sum := "0b1b688e917af0aff39d6a252b384d6d9569f5814280e7d27e827975f864c9a4", func := "selvedge/selvedgelaw20.OrderAgain", spec := "orderAgain", named := ["selvedge/props.brackets", "selvedge/props.mirrors"], apart := false, laid := [("selvedge/props.brackets", laid_selvedge_props_brackets), ("selvedge/props.mirrors", laid_selvedge_props_mirrors)] }
def OrderAgainSaid : Prop := orderAgainRow.holds Tryd.pinned (OpenSpec.ofChange orderAgainSpec)

/-- ITS FALSE NEIGHBOUR: 'it returns false'. Refute it at one input. -/
def orderAgainWrong : ChangeSpec := { name := "orderAgain", fn := fun _ => fun
  | [d1, d2, d3, d4, d5] => { results := [.lit (.bool false)], args := [d1, d2, d3, d4, d5] }
  | _ => none }
def OrderAgainWrongFalsely : Prop := orderAgainRow.holds Tryd.pinned (OpenSpec.ofChange orderAgainWrong)

/-- 'selvedgelaw20.OrderBackward': WHATEVER THE INPUT: true; the input reads as it did. -/
def orderBackwardSpec : ChangeSpec := { name := "orderBackward", fn := fun _ => fun
  | [d] => { results := [.lit (.bool true)], args := [d] }
  | _ => none }
def orderBackwardRow : OpenClaim := { program := "ytgfkbijmchoolaadoor", sum := "0b1b688e917af0aff39d6a252b384d6d9569f5814280e7d27e827975f864c9a4", func := "selvedge/selvedgelaw20.OrderBackward", spec := "orderBackward", named := ["selvedge/props.brackets", "selvedge/props.mirrors"], apart := false, laid := [("selvedge/props.brackets", laid_selvedge_props_brackets), ("selvedge/props.mirrors", laid_selvedge_props_mirrors)] }
def OrderBackwardSaid : Prop := orderBackwardRow.holds Tryd.pinned (OpenSpec.ofChange orderBackwardSpec)

/-- ITS FALSE NEIGHBOUR: 'it returns false'. Refute it at one input. -/
def orderBackwardWrong : ChangeSpec := { name := "orderBackward", fn := fun _ => fun
  | [d] => { results := [.lit (.bool false)], args := [d] }
  | _ => none }
def OrderBackwardWrongFalsely : Prop := orderBackwardRow.holds Tryd.pinned (OpenSpec.ofChange orderBackwardWrong)

/-- 'selvedgelaw20.OrderShows': WHATEVER THE INPUT: true; the input reads as it did. -/
def orderShowsSpec : ChangeSpec := { name := "orderShows", fn := fun _ => fun
  | [d1, d2] => { results := [.lit (.bool true)], args := [d1, d2] }
  | _ => none }
def orderShowsRow : OpenClaim := { program := "ytgfkbijmchoolaadoor", sum := "0b1b688e917af0aff39d6a252b384d6d9569f5814280e7d27e827975f864c9a4", func := "selvedge/selvedgelaw20.OrderShows", spec := "orderShows", named := ["selvedge/props.brackets", "selvedge/props.mirrors"], apart := false, laid := [("selvedge/props.brackets", laid_selvedge_props_brackets), ("selvedge/props.mirrors", laid_selvedge_props_mirrors)] }
def OrderShowsSaid : Prop := orderShowsRow.holds Tryd.pinned (OpenSpec.ofChange orderShowsSpec)

/-- ITS FALSE NEIGHBOUR: 'it returns false'. Refute it at one input. -/
def orderShowsWrong : ChangeSpec := { name := "orderShows", fn := fun _ => fun
  | [d1, d2] => { results := [.lit (.bool false)], args := [d1, d2] }
  | _ => none }
def OrderShowsWrongFalsely : Prop := orderShowsRow.holds Tryd.pinned (OpenSpec.ofChange orderShowsWrong)

/-- 'selvedgelaw20.OrderKnown': WHATEVER THE INPUT: true; the input reads as it did. -/
def orderKnownSpec : ChangeSpec := { name := "orderKnown", fn := fun _ => fun
  | [] => { results := [.lit (.bool true)], args := [] }
  | _ => none }
def orderKnownRow : OpenClaim := { program := "ytgfkbijmchoolaadoor", sum := "0b1b688e917af0aff39d6a252b384d6d9569f5814280e7d27e827975f864c9a4", func := "selvedge/selvedgelaw20.OrderKnown", spec := "orderKnown", named := ["selvedge/props.brackets", "selvedge/props.mirrors"], apart := false, laid := [("selvedge/props.brackets", laid_selvedge_props_brackets), ("selvedge/props.mirrors", laid_selvedge_props_mirrors)] }
def OrderKnownSaid : Prop := orderKnownRow.holds Tryd.pinned (OpenSpec.ofChange orderKnownSpec)

/-- ITS FALSE NEIGHBOUR: 'it returns false'. Refute it at one input. -/
def orderKnownWrong : ChangeSpec := { name := "orderKnown", fn := fun _ => fun
  | [] => { results := [.lit (.bool false)], args := [] }
  | _ => none }
def OrderKnownWrongFalsely : Prop := orderKnownRow.holds Tryd.pinned (OpenSpec.ofChange orderKnownWrong)

/-- 'selvedgelaw20.OrderEven': WHATEVER THE INPUT: true; the input reads as it did. -/
def orderEvenSpec : ChangeSpec := { name := "orderEven", fn := fun _ => fun
  | [d1, d2] => { results := [.lit (.bool true)], args := [d1, d2] }
  | _ => none }
def orderEvenRow : OpenClaim := { program := "ytgfkbijmchoolaadoor", sum := "0b1b688e917af0aff39d6a252b384d6d9569f5814280e7d27e827975f864c9a4", func := "selvedge/selvedgelaw20.OrderEven", spec := "orderEven", named := ["selvedge/props.brackets", "selvedge/props.mirrors"], apart := false, laid := [("selvedge/props.brackets", laid_selvedge_props_brackets), ("selvedge/props.mirrors", laid_selvedge_props_mirrors)] }
def OrderEvenSaid : Prop := orderEvenRow.holds Tryd.pinned (OpenSpec.ofChange orderEvenSpec)

/-- ITS FALSE NEIGHBOUR: 'it returns false'. Refute it at one input. -/
def orderEvenWrong : ChangeSpec := { name := "orderEven", fn := fun _ => fun
  | [d1, d2] => { results := [.lit (.bool false)], args := [d1, d2] }
  | _ => none }
def OrderEvenWrongFalsely : Prop := orderEvenRow.holds Tryd.pinned (OpenSpec.ofChange orderEvenWrong)

/- THE SECOND FORM. 'bulk': how many values and letters a reading holds, each counted each time it is reached (what is shared counts as often as it is met; a slice's spare places count too). A statement '..UptoSaid' is the law's where the arguments, and the package variables that the reading takes, are together of bulk at most 1048576: NARROWER than '..Said'. Prove '..Said' where nothing that the law and all that it calls make is longer than what came in: it says more and counts as full. Else prove '..UptoSaid'. A law counts once. -/
mutual
def uptoBulk {H : Type} : DataW H → Nat
  | .lit (.string bytes) => bytes.length + 1
  | .lit _ => 1
  | .nil => 1
  | .ptr d => uptoBulk d + 1
  | .slice elems spare => uptoBulkAll elems + uptoBulkAll spare + 1
  | .agg parts => uptoBulkAll parts + 1
  | .iface _ d => uptoBulk d + 1
  | .map entries => uptoBulkEntries entries + 1
  | .held _ => 1
def uptoBulkAll {H : Type} : List (DataW H) → Nat
  | [] => 0
  | d :: r => uptoBulk d + uptoBulkAll r
def uptoBulkEntries {H : Type} : List (Lit × DataW H) → Nat
  | [] => 0
  | x :: r => uptoBulkEntry x + uptoBulkEntries r
def uptoBulkEntry {H : Type} : Lit × DataW H → Nat
  | (.string bytes, d) => bytes.length + uptoBulk d + 1
  | (_, d) => uptoBulk d + 1
 end
def uptoSmall : (H : Type) → List (DataW H) → Bool := fun _ ds => decide (uptoBulkAll ds ≤ 1048576)
def OpenSpec.upto (s : _root_.Go.ChangeSpec) : _root_.Go.OpenSpec := { _root_.Go.OpenSpec.ofChange s with cond := some uptoSmall }

/-- 'selvedgelaw20.OrderResets', WHERE WHAT IT READS IS OF BULK AT MOST 1048576: true; the input reads as it did. -/
def orderResetsUptoRow : OpenClaim := { program := "ytgfkbijmchoolaadoor", sum := "0b1b688e917af0aff39d6a252b384d6d9569f5814280e7d27e827975f864c9a4", func := "selvedge/selvedgelaw20.OrderResets", spec := "orderResets", named := ["selvedge/props.brackets", "selvedge/props.mirrors"], apart := false, laid := [("selvedge/props.brackets", laid_selvedge_props_brackets), ("selvedge/props.mirrors", laid_selvedge_props_mirrors)], narrowed := true }
def OrderResetsUptoSaid : Prop := orderResetsUptoRow.holds Tryd.pinned (OpenSpec.upto orderResetsSpec)

/-- 'selvedgelaw20.OrderTurns', WHERE WHAT IT READS IS OF BULK AT MOST 1048576: true; the input reads as it did. -/
def orderTurnsUptoRow : OpenClaim := { program := "ytgfkbijmchoolaadoor", sum := "0b1b688e917af0aff39d6a252b384d6d9569f5814280e7d27e827975f864c9a4", func := "selvedge/selvedgelaw20.OrderTurns", spec := "orderTurns", named := ["selvedge/props.brackets", "selvedge/props.mirrors"], apart := false, laid := [("selvedge/props.brackets", laid_selvedge_props_brackets), ("selvedge/props.mirrors", laid_selvedge_props_mirrors)], narrowed := true }
def OrderTurnsUptoSaid : Prop := orderTurnsUptoRow.holds Tryd.pinned (OpenSpec.upto orderTurnsSpec)

/-- 'selvedgelaw20.OrderMirrors', WHERE WHAT IT READS IS OF BULK AT MOST 1048576: true; the input reads as it did. -/
def orderMirrorsUptoRow : OpenClaim := { program := "ytgfkbijmchoolaadoor", sum := "0b1b688e917af0aff39d6a252b384d6d9569f5814280e7d27e827975f864c9a4", func := "selvedge/selvedgelaw20.OrderMirrors", spec := "orderMirrors", named := ["selvedge/props.brackets", "selvedge/props.mirrors"], apart := false, laid := [("selvedge/props.brackets", laid_selvedge_props_brackets), ("selvedge/props.mirrors", laid_selvedge_props_mirrors)], narrowed := true }
def OrderMirrorsUptoSaid : Prop := orderMirrorsUptoRow.holds Tryd.pinned (OpenSpec.upto orderMirrorsSpec)

/-- 'selvedgelaw20.OrderAgain', WHERE WHAT IT READS IS OF BULK AT MOST 1048576: true; the input reads as it did. -/
def orderAgainUptoRow : OpenClaim := { program := "ytgfkbijmchoolaadoor", sum := "0b1b688e917af0aff39d6a252b384d6d9569f5814280e7d27e827975f864c9a4", func := "selvedge/selvedgelaw20.OrderAgain", spec := "orderAgain", named := ["selvedge/props.brackets", "selvedge/props.mirrors"], apart := false, laid := [("selvedge/props.brackets", laid_selvedge_props_brackets), ("selvedge/props.mirrors", laid_selvedge_props_mirrors)], narrowed := true }
def OrderAgainUptoSaid : Prop := orderAgainUptoRow.holds Tryd.pinned (OpenSpec.upto orderAgainSpec)

/-- 'selvedgelaw20.OrderBackward', WHERE WHAT IT READS IS OF BULK AT MOST 1048576: true; the input reads as it did. -/
def orderBackwardUptoRow : OpenClaim := { program := "ytgfkbijmchoolaadoor", sum := "0b1b688e917af0aff39d6a252b384d6d9569f5814280e7d27e827975f864c9a4", func := "selvedge/selvedgelaw20.OrderBackward", spec := "orderBackward", named := ["selvedge/props.brackets", "selvedge/props.mirrors"], apart := false, laid := [("selvedge/props.brackets", laid_selvedge_props_brackets), ("selvedge/props.mirrors", laid_selvedge_props_mirrors)], narrowed := true }
def OrderBackwardUptoSaid : Prop := orderBackwardUptoRow.holds Tryd.pinned (OpenSpec.upto orderBackwardSpec)

/-- 'selvedgelaw20.OrderShows', WHERE WHAT IT READS IS OF BULK AT MOST 1048576: true; the input reads as it did. -/
def orderShowsUptoRow : OpenClaim := { program := "ytgfkbijmchoolaadoor", sum := "0b1b688e917af0aff39d6a252b384d6d9569f5814280e7d27e827975f864c9a4", func := "selvedge/selvedgelaw20.OrderShows", spec := "orderShows", named := ["selvedge/props.brackets", "selvedge/props.mirrors"], apart := false, laid := [("selvedge/props.brackets", laid_selvedge_props_brackets), ("selvedge/props.mirrors", laid_selvedge_props_mirrors)], narrowed := true }
def OrderShowsUptoSaid : Prop := orderShowsUptoRow.holds Tryd.pinned (OpenSpec.upto orderShowsSpec)

/-- 'selvedgelaw20.OrderKnown', WHERE WHAT IT READS IS OF BULK AT MOST 1048576: true; the input reads as it did. -/
def orderKnownUptoRow : OpenClaim := { program := "ytgfkbijmchoolaadoor", sum := "0b1b688e917af0aff39d6a252b384d6d9569f5814280e7d27e827975f864c9a4", func := "selvedge/selvedgelaw20.OrderKnown", spec := "orderKnown", named := ["selvedge/props.brackets", "selvedge/props.mirrors"], apart := false, laid := [("selvedge/props.brackets", laid_selvedge_props_brackets), ("selvedge/props.mirrors", laid_selvedge_props_mirrors)], narrowed := true }
def OrderKnownUptoSaid : Prop := orderKnownUptoRow.holds Tryd.pinned (OpenSpec.upto orderKnownSpec)

/-- 'selvedgelaw20.OrderEven', WHERE WHAT IT READS IS OF BULK AT MOST 1048576: true; the input reads as it did. -/
def orderEvenUptoRow : OpenClaim := { program := "ytgfkbijmchoolaadoor", sum := "0b1b688e917af0aff39d6a252b384d6d9569f5814280e7d27e827975f864c9a4", func := "selvedge/selvedgelaw20.OrderEven", spec := "orderEven", named := ["selvedge/props.brackets", "selvedge/props.mirrors"], apart := false, laid := [("selvedge/props.brackets", laid_selvedge_props_brackets), ("selvedge/props.mirrors", laid_selvedge_props_mirrors)], narrowed := true }
def OrderEvenUptoSaid : Prop := orderEvenUptoRow.holds Tryd.pinned (OpenSpec.upto orderEvenSpec)

end Rows
end Go.Proofs.YtgfkbijmchoolaaDoor

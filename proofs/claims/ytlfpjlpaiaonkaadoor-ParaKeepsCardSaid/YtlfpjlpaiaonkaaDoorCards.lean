/-
  DERIVED. GIVEN WITH THE SEED: THE CARDS: each row of YtlfpjlpaiaonkaaDoorRows.lean that lists a variable, with what it lists TIED to the program's text (the seventh form; the later family's looks); each row that meets fmt, with fmt's text TOLD by the authors' own Lean function (tested against real Go, not proved from fmt's source: count such statements apart). THE CARD IS WHAT COUNTS. Prove the row's statement (the work); the ties are given (YtlfpjlpaiaonkaaDoorTie.lean); close each card by the builder's one call (the guide's Derived/Test/ToyasCard.lean, 'card_holds'). Laid BY PROGRAM, IN A SANDBOX (cutbox-door.mjs). By AI agents, Wed Nov 11 2026. No macro, syntax, notation, axiom, sorry.
-/
import Derived.Test.YtlfpjlpaiaonkaaDoorRows
import GoSem.ClaimSeven
namespace Go.Proofs.YtlfpjlpaiaonkaaDoor
namespace Rows

/-- THE TIED CARD OF 'selvedgelaw13.ParaSplits'. -/
def paraSplitsCard : Claim7 := { stood := { row := paraSplitsRow, standIns := [], harness := (true, "4b1ad4e13a0cc86d3f026a6ae293a28fcbe217994cf93299094795451621d92f"), looks := false }, kinds := [], alts := [], laidByText := true, laidKinds := [.data], laidTests := true, laidLooks := .later }
def ParaSplitsCardSaid : Prop := Claim7.holds Tryd.pinned (.plain (OpenSpec.ofChange paraSplitsSpec)) paraSplitsCard

/-- THE TIED CARD OF 'selvedgelaw13.ParaControls'. -/
def paraControlsCard : Claim7 := { stood := { row := paraControlsRow, standIns := [], harness := (true, "4b1ad4e13a0cc86d3f026a6ae293a28fcbe217994cf93299094795451621d92f"), looks := false }, kinds := [], alts := [], laidByText := true, laidKinds := [.data], laidTests := true, laidLooks := .later }
def ParaControlsCardSaid : Prop := Claim7.holds Tryd.pinned (.plain (OpenSpec.ofChange paraControlsSpec)) paraControlsCard

/-- THE TIED CARD OF 'selvedgelaw13.ParaKeeps'. -/
def paraKeepsCard : Claim7 := { stood := { row := paraKeepsRow, standIns := [], harness := (true, "4b1ad4e13a0cc86d3f026a6ae293a28fcbe217994cf93299094795451621d92f"), looks := false }, kinds := [], alts := [], laidByText := true, laidKinds := [.data], laidTests := true, laidLooks := .later }
def ParaKeepsCardSaid : Prop := Claim7.holds Tryd.pinned (.plain (OpenSpec.ofChange paraKeepsSpec)) paraKeepsCard

/-- THE TIED CARD OF 'selvedgelaw13.ParaKnown'. -/
def paraKnownCard : Claim7 := { stood := { row := paraKnownRow, standIns := [], harness := (true, "4b1ad4e13a0cc86d3f026a6ae293a28fcbe217994cf93299094795451621d92f"), looks := false }, kinds := [], alts := [], laidByText := true, laidKinds := [.data], laidTests := true, laidLooks := .later }
def ParaKnownCardSaid : Prop := Claim7.holds Tryd.pinned (.plain (OpenSpec.ofChange paraKnownSpec)) paraKnownCard

/-- THE TIED CARD OF 'selvedgelaw13.ParaPlain'. -/
def paraPlainCard : Claim7 := { stood := { row := paraPlainRow, standIns := [], harness := (true, "4b1ad4e13a0cc86d3f026a6ae293a28fcbe217994cf93299094795451621d92f"), looks := false }, kinds := [], alts := [], laidByText := true, laidKinds := [.data], laidTests := true, laidLooks := .later }
def ParaPlainCardSaid : Prop := Claim7.holds Tryd.pinned (.plain (OpenSpec.ofChange paraPlainSpec)) paraPlainCard

/-- THE TIED CARD OF 'selvedgelaw13.ParaBreaks'. -/
def paraBreaksCard : Claim7 := { stood := { row := paraBreaksRow, standIns := [], harness := (true, "4b1ad4e13a0cc86d3f026a6ae293a28fcbe217994cf93299094795451621d92f"), looks := false }, kinds := [], alts := [], laidByText := true, laidKinds := [.data], laidTests := true, laidLooks := .later }
def ParaBreaksCardSaid : Prop := Claim7.holds Tryd.pinned (.plain (OpenSpec.ofChange paraBreaksSpec)) paraBreaksCard

/-- THE SECOND FORM's CARD OF 'selvedgelaw13.ParaSplits'. -/
def paraSplitsUptoCard : Claim7 := { stood := { row := paraSplitsUptoRow, standIns := [], harness := (true, "4b1ad4e13a0cc86d3f026a6ae293a28fcbe217994cf93299094795451621d92f"), looks := false }, kinds := [], alts := [], laidByText := true, laidKinds := [.data], laidTests := true, laidLooks := .later }
def ParaSplitsUptoCardSaid : Prop := Claim7.holds Tryd.pinned (.plain (OpenSpec.upto paraSplitsSpec)) paraSplitsUptoCard

/-- THE SECOND FORM's CARD OF 'selvedgelaw13.ParaControls'. -/
def paraControlsUptoCard : Claim7 := { stood := { row := paraControlsUptoRow, standIns := [], harness := (true, "4b1ad4e13a0cc86d3f026a6ae293a28fcbe217994cf93299094795451621d92f"), looks := false }, kinds := [], alts := [], laidByText := true, laidKinds := [.data], laidTests := true, laidLooks := .later }
def ParaControlsUptoCardSaid : Prop := Claim7.holds Tryd.pinned (.plain (OpenSpec.upto paraControlsSpec)) paraControlsUptoCard

/-- THE SECOND FORM's CARD OF 'selvedgelaw13.ParaKeeps'. -/
def paraKeepsUptoCard : Claim7 := { stood := { row := paraKeepsUptoRow, standIns := [], harness := (true, "4b1ad4e13a0cc86d3f026a6ae293a28fcbe217994cf93299094795451621d92f"), looks := false }, kinds := [], alts := [], laidByText := true, laidKinds := [.data], laidTests := true, laidLooks := .later }
def ParaKeepsUptoCardSaid : Prop := Claim7.holds Tryd.pinned (.plain (OpenSpec.upto paraKeepsSpec)) paraKeepsUptoCard

/-- THE SECOND FORM's CARD OF 'selvedgelaw13.ParaKnown'. -/
def paraKnownUptoCard : Claim7 := { stood := { row := paraKnownUptoRow, standIns := [], harness := (true, "4b1ad4e13a0cc86d3f026a6ae293a28fcbe217994cf93299094795451621d92f"), looks := false }, kinds := [], alts := [], laidByText := true, laidKinds := [.data], laidTests := true, laidLooks := .later }
def ParaKnownUptoCardSaid : Prop := Claim7.holds Tryd.pinned (.plain (OpenSpec.upto paraKnownSpec)) paraKnownUptoCard

/-- THE SECOND FORM's CARD OF 'selvedgelaw13.ParaPlain'. -/
def paraPlainUptoCard : Claim7 := { stood := { row := paraPlainUptoRow, standIns := [], harness := (true, "4b1ad4e13a0cc86d3f026a6ae293a28fcbe217994cf93299094795451621d92f"), looks := false }, kinds := [], alts := [], laidByText := true, laidKinds := [.data], laidTests := true, laidLooks := .later }
def ParaPlainUptoCardSaid : Prop := Claim7.holds Tryd.pinned (.plain (OpenSpec.upto paraPlainSpec)) paraPlainUptoCard

/-- THE SECOND FORM's CARD OF 'selvedgelaw13.ParaBreaks'. -/
def paraBreaksUptoCard : Claim7 := { stood := { row := paraBreaksUptoRow, standIns := [], harness := (true, "4b1ad4e13a0cc86d3f026a6ae293a28fcbe217994cf93299094795451621d92f"), looks := false }, kinds := [], alts := [], laidByText := true, laidKinds := [.data], laidTests := true, laidLooks := .later }
def ParaBreaksUptoCardSaid : Prop := Claim7.holds Tryd.pinned (.plain (OpenSpec.upto paraBreaksSpec)) paraBreaksUptoCard
end Rows
end Go.Proofs.YtlfpjlpaiaonkaaDoor

/-
  DERIVED. GIVEN WITH THE SEED: THE CARDS: each row of YtgfkbijmchoolaaDoorRows.lean that lists a variable, with what it lists TIED to the program's text (the seventh form; the later family's looks); each row that meets fmt, with fmt's text TOLD by the authors' own Lean function (tested against real Go, not proved from fmt's source: count such statements apart). THE CARD IS WHAT COUNTS. Prove the row's statement (the work); the ties are given (YtgfkbijmchoolaaDoorTie.lean); close each card by the builder's one call (the guide's Derived/Test/ToyasCard.lean, 'card_holds'). Laid BY PROGRAM, IN A SANDBOX (cutbox-door.mjs). By AI agents, Wed Nov 11 2026. No macro, syntax, notation, axiom, sorry.
-/
import Derived.Test.YtgfkbijmchoolaaDoorRows
import GoSem.ClaimSeven
namespace Go.Proofs.YtgfkbijmchoolaaDoor
namespace Rows

/-- THE TIED CARD OF 'selvedgelaw20.OrderResets'. -/
def orderResetsCard : Claim7 := { stood := { row := orderResetsRow, standIns := [], harness := (true, "b541f640bc8c0658e470e45f8bfa48c145b07d7027167cc4f4aeffc1aadfae53"), looks := false }, kinds := [], alts := [], laidByText := true, laidKinds := [.widerDeep, .widerDeep], laidTests := true, laidLooks := .later }
def OrderResetsCardSaid : Prop := Claim7.holds Tryd.pinned (.plain (OpenSpec.ofChange orderResetsSpec)) orderResetsCard

/-- THE TIED CARD OF 'selvedgelaw20.OrderTurns'. -/
def orderTurnsCard : Claim7 := { stood := { row := orderTurnsRow, standIns := [], harness := (true, "b541f640bc8c0658e470e45f8bfa48c145b07d7027167cc4f4aeffc1aadfae53"), looks := false }, kinds := [], alts := [], laidByText := true, laidKinds := [.widerDeep, .widerDeep], laidTests := true, laidLooks := .later }
def OrderTurnsCardSaid : Prop := Claim7.holds Tryd.pinned (.plain (OpenSpec.ofChange orderTurnsSpec)) orderTurnsCard

/-- THE TIED CARD OF 'selvedgelaw20.OrderMirrors'. -/
def orderMirrorsCard : Claim7 := { stood := { row := orderMirrorsRow, standIns := [], harness := (true, "b541f640bc8c0658e470e45f8bfa48c145b07d7027167cc4f4aeffc1aadfae53"), looks := false }, kinds := [], alts := [], laidByText := true, laidKinds := [.widerDeep, .widerDeep], laidTests := true, laidLooks := .later }
def OrderMirrorsCardSaid : Prop := Claim7.holds Tryd.pinned (.plain (OpenSpec.ofChange orderMirrorsSpec)) orderMirrorsCard

/-- THE TIED CARD OF 'selvedgelaw20.OrderAgain'. -/
def orderAgainCard : Claim7 := { stood := { row := orderAgainRow, standIns := [], harness := (true, "b541f640bc8c0658e470e45f8bfa48c145b07d7027167cc4f4aeffc1aadfae53"), looks := false }, kinds := [], alts := [], laidByText := true, laidKinds := [.widerDeep, .widerDeep], laidTests := true, laidLooks := .later }
def OrderAgainCardSaid : Prop := Claim7.holds Tryd.pinned (.plain (OpenSpec.ofChange orderAgainSpec)) orderAgainCard

/-- THE TIED CARD OF 'selvedgelaw20.OrderBackward'. -/
def orderBackwardCard : Claim7 := { stood := { row := orderBackwardRow, standIns := [], harness := (true, "b541f640bc8c0658e470e45f8bfa48c145b07d7027167cc4f4aeffc1aadfae53"), looks := false }, kinds := [], alts := [], laidByText := true, laidKinds := [.widerDeep, .widerDeep], laidTests := true, laidLooks := .later }
def OrderBackwardCardSaid : Prop := Claim7.holds Tryd.pinned (.plain (OpenSpec.ofChange orderBackwardSpec)) orderBackwardCard

/-- THE TIED CARD OF 'selvedgelaw20.OrderShows'. -/
def orderShowsCard : Claim7 := { stood := { row := orderShowsRow, standIns := [], harness := (true, "b541f640bc8c0658e470e45f8bfa48c145b07d7027167cc4f4aeffc1aadfae53"), looks := false }, kinds := [], alts := [], laidByText := true, laidKinds := [.widerDeep, .widerDeep], laidTests := true, laidLooks := .later }
def OrderShowsCardSaid : Prop := Claim7.holds Tryd.pinned (.plain (OpenSpec.ofChange orderShowsSpec)) orderShowsCard

/-- THE TIED CARD OF 'selvedgelaw20.OrderKnown'. -/
def orderKnownCard : Claim7 := { stood := { row := orderKnownRow, standIns := [], harness := (true, "b541f640bc8c0658e470e45f8bfa48c145b07d7027167cc4f4aeffc1aadfae53"), looks := false }, kinds := [], alts := [], laidByText := true, laidKinds := [.widerDeep, .widerDeep], laidTests := true, laidLooks := .later }
def OrderKnownCardSaid : Prop := Claim7.holds Tryd.pinned (.plain (OpenSpec.ofChange orderKnownSpec)) orderKnownCard

/-- THE TIED CARD OF 'selvedgelaw20.OrderEven'. -/
def orderEvenCard : Claim7 := { stood := { row := orderEvenRow, standIns := [], harness := (true, "b541f640bc8c0658e470e45f8bfa48c145b07d7027167cc4f4aeffc1aadfae53"), looks := false }, kinds := [], alts := [], laidByText := true, laidKinds := [.widerDeep, .widerDeep], laidTests := true, laidLooks := .later }
def OrderEvenCardSaid : Prop := Claim7.holds Tryd.pinned (.plain (OpenSpec.ofChange orderEvenSpec)) orderEvenCard

/-- THE SECOND FORM's CARD OF 'selvedgelaw20.OrderResets'. -/
def orderResetsUptoCard : Claim7 := { stood := { row := orderResetsUptoRow, standIns := [], harness := (true, "b541f640bc8c0658e470e45f8bfa48c145b07d7027167cc4f4aeffc1aadfae53"), looks := false }, kinds := [], alts := [], laidByText := true, laidKinds := [.widerDeep, .widerDeep], laidTests := true, laidLooks := .later }
def OrderResetsUptoCardSaid : Prop := Claim7.holds Tryd.pinned (.plain (OpenSpec.upto orderResetsSpec)) orderResetsUptoCard

/-- THE SECOND FORM's CARD OF 'selvedgelaw20.OrderTurns'. -/
def orderTurnsUptoCard : Claim7 := { stood := { row := orderTurnsUptoRow, standIns := [], harness := (true, "b541f640bc8c0658e470e45f8bfa48c145b07d7027167cc4f4aeffc1aadfae53"), looks := false }, kinds := [], alts := [], laidByText := true, laidKinds := [.widerDeep, .widerDeep], laidTests := true, laidLooks := .later }
def OrderTurnsUptoCardSaid : Prop := Claim7.holds Tryd.pinned (.plain (OpenSpec.upto orderTurnsSpec)) orderTurnsUptoCard

/-- THE SECOND FORM's CARD OF 'selvedgelaw20.OrderMirrors'. -/
def orderMirrorsUptoCard : Claim7 := { stood := { row := orderMirrorsUptoRow, standIns := [], harness := (true, "b541f640bc8c0658e470e45f8bfa48c145b07d7027167cc4f4aeffc1aadfae53"), looks := false }, kinds := [], alts := [], laidByText := true, laidKinds := [.widerDeep, .widerDeep], laidTests := true, laidLooks := .later }
def OrderMirrorsUptoCardSaid : Prop := Claim7.holds Tryd.pinned (.plain (OpenSpec.upto orderMirrorsSpec)) orderMirrorsUptoCard

/-- THE SECOND FORM's CARD OF 'selvedgelaw20.OrderAgain'. -/
def orderAgainUptoCard : Claim7 := { stood := { row := orderAgainUptoRow, standIns := [], harness := (true, "b541f640bc8c0658e470e45f8bfa48c145b07d7027167cc4f4aeffc1aadfae53"), looks := false }, kinds := [], alts := [], laidByText := true, laidKinds := [.widerDeep, .widerDeep], laidTests := true, laidLooks := .later }
def OrderAgainUptoCardSaid : Prop := Claim7.holds Tryd.pinned (.plain (OpenSpec.upto orderAgainSpec)) orderAgainUptoCard

/-- THE SECOND FORM's CARD OF 'selvedgelaw20.OrderBackward'. -/
def orderBackwardUptoCard : Claim7 := { stood := { row := orderBackwardUptoRow, standIns := [], harness := (true, "b541f640bc8c0658e470e45f8bfa48c145b07d7027167cc4f4aeffc1aadfae53"), looks := false }, kinds := [], alts := [], laidByText := true, laidKinds := [.widerDeep, .widerDeep], laidTests := true, laidLooks := .later }
def OrderBackwardUptoCardSaid : Prop := Claim7.holds Tryd.pinned (.plain (OpenSpec.upto orderBackwardSpec)) orderBackwardUptoCard

/-- THE SECOND FORM's CARD OF 'selvedgelaw20.OrderShows'. -/
def orderShowsUptoCard : Claim7 := { stood := { row := orderShowsUptoRow, standIns := [], harness := (true, "b541f640bc8c0658e470e45f8bfa48c145b07d7027167cc4f4aeffc1aadfae53"), looks := false }, kinds := [], alts := [], laidByText := true, laidKinds := [.widerDeep, .widerDeep], laidTests := true, laidLooks := .later }
def OrderShowsUptoCardSaid : Prop := Claim7.holds Tryd.pinned (.plain (OpenSpec.upto orderShowsSpec)) orderShowsUptoCard

/-- THE SECOND FORM's CARD OF 'selvedgelaw20.OrderKnown'. -/
def orderKnownUptoCard : Claim7 := { stood := { row := orderKnownUptoRow, standIns := [], harness := (true, "b541f640bc8c0658e470e45f8bfa48c145b07d7027167cc4f4aeffc1aadfae53"), looks := false }, kinds := [], alts := [], laidByText := true, laidKinds := [.widerDeep, .widerDeep], laidTests := true, laidLooks := .later }
def OrderKnownUptoCardSaid : Prop := Claim7.holds Tryd.pinned (.plain (OpenSpec.upto orderKnownSpec)) orderKnownUptoCard

/-- THE SECOND FORM's CARD OF 'selvedgelaw20.OrderEven'. -/
def orderEvenUptoCard : Claim7 := { stood := { row := orderEvenUptoRow, standIns := [], harness := (true, "b541f640bc8c0658e470e45f8bfa48c145b07d7027167cc4f4aeffc1aadfae53"), looks := false }, kinds := [], alts := [], laidByText := true, laidKinds := [.widerDeep, .widerDeep], laidTests := true, laidLooks := .later }
def OrderEvenUptoCardSaid : Prop := Claim7.holds Tryd.pinned (.plain (OpenSpec.upto orderEvenSpec)) orderEvenUptoCard
end Rows
end Go.Proofs.YtgfkbijmchoolaaDoor

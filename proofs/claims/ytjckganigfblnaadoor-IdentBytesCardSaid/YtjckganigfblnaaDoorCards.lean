/-
  DERIVED. GIVEN WITH THE SEED: THE CARDS: each row of YtjckganigfblnaaDoorRows.lean that lists a variable, with what it lists TIED to the program's text (the seventh form; the later family's looks); each row that meets fmt, with fmt's text TOLD by the authors' own Lean function (tested against real Go, not proved from fmt's source: count such statements apart). THE CARD IS WHAT COUNTS. Prove the row's statement (the work); the ties are given (YtjckganigfblnaaDoorTie.lean); close each card by the builder's one call (the guide's Derived/Test/ToyasCard.lean, 'card_holds'). Laid BY PROGRAM, IN A SANDBOX (cutbox-door.mjs). By AI agents, Wed Nov 11 2026. No macro, syntax, notation, axiom, sorry.
-/
import Derived.Test.YtjckganigfblnaaDoorRows
import GoSem.ClaimSeven
namespace Go.Proofs.YtjckganigfblnaaDoor
namespace Rows

/-- THE TIED CARD OF 'selkielaw05.IdentBytes'. -/
def identBytesCard : Claim7 := { stood := { row := identBytesRow, standIns := [], harness := (true, "4e4649b2e56293408b5a5a7ede715043e58c140f8488b5403f3bf02124768ed7"), looks := true }, kinds := [], alts := [], laidByText := true, laidKinds := [.handle], laidTests := true, laidLooks := .later }
def IdentBytesCardSaid : Prop := Claim7.holds Tryd.pinned (.plain (OpenSpec.ofChange identBytesSpec)) identBytesCard

/-- THE TIED CARD OF 'selkielaw09.LampTells'. -/
def lampTellsCard : Claim7 := { stood := { row := lampTellsRow, standIns := [], harness := (true, "4e4649b2e56293408b5a5a7ede715043e58c140f8488b5403f3bf02124768ed7"), looks := true }, kinds := [], alts := [], laidByText := true, laidKinds := [.handle], laidTests := true, laidLooks := .later }
def LampTellsCardSaid : Prop := Claim7.holds Tryd.pinned (.plain (OpenSpec.ofChange lampTellsSpec)) lampTellsCard

/-- THE TIED CARD OF 'selkielaw11.PncTells'. -/
def pncTellsCard : Claim7 := { stood := { row := pncTellsRow, standIns := [], harness := (true, "4e4649b2e56293408b5a5a7ede715043e58c140f8488b5403f3bf02124768ed7"), looks := true }, kinds := [], alts := [], laidByText := true, laidKinds := [.handle], laidTests := true, laidLooks := .later }
def PncTellsCardSaid : Prop := Claim7.holds Tryd.pinned (.plain (OpenSpec.ofChange pncTellsSpec)) pncTellsCard

/-- THE TIED CARD OF 'selkielaw23.BallotTells'. -/
def ballotTellsCard : Claim7 := { stood := { row := ballotTellsRow, standIns := [], harness := (true, "4e4649b2e56293408b5a5a7ede715043e58c140f8488b5403f3bf02124768ed7"), looks := true }, kinds := [], alts := [], laidByText := true, laidKinds := [.handle], laidTests := true, laidLooks := .later }
def BallotTellsCardSaid : Prop := Claim7.holds Tryd.pinned (.plain (OpenSpec.ofChange ballotTellsSpec)) ballotTellsCard

/-- THE TIED CARD OF 'selkielaw10.LwwTells'. -/
def lwwTellsCard : Claim7 := { stood := { row := lwwTellsRow, standIns := [], harness := (true, "4e4649b2e56293408b5a5a7ede715043e58c140f8488b5403f3bf02124768ed7"), looks := true }, kinds := [], alts := [], laidByText := true, laidKinds := [.handle], laidTests := true, laidLooks := .later }
def LwwTellsCardSaid : Prop := Claim7.holds Tryd.pinned (.plain (OpenSpec.ofChange lwwTellsSpec)) lwwTellsCard

/-- THE TIED CARD OF 'selkielaw06.VecBytes'. -/
def vecBytesCard : Claim7 := { stood := { row := vecBytesRow, standIns := [], harness := (true, "4e4649b2e56293408b5a5a7ede715043e58c140f8488b5403f3bf02124768ed7"), looks := true }, kinds := [], alts := [], laidByText := true, laidKinds := [.handle], laidTests := true, laidLooks := .later }
def VecBytesCardSaid : Prop := Claim7.holds Tryd.pinned (.plain (OpenSpec.ofChange vecBytesSpec)) vecBytesCard

/-- THE SECOND FORM's CARD OF 'selkielaw05.IdentBytes'. -/
def identBytesUptoCard : Claim7 := { stood := { row := identBytesUptoRow, standIns := [], harness := (true, "4e4649b2e56293408b5a5a7ede715043e58c140f8488b5403f3bf02124768ed7"), looks := true }, kinds := [], alts := [], laidByText := true, laidKinds := [.handle], laidTests := true, laidLooks := .later }
def IdentBytesUptoCardSaid : Prop := Claim7.holds Tryd.pinned (.plain (OpenSpec.upto identBytesSpec)) identBytesUptoCard

/-- THE SECOND FORM's CARD OF 'selkielaw09.LampTells'. -/
def lampTellsUptoCard : Claim7 := { stood := { row := lampTellsUptoRow, standIns := [], harness := (true, "4e4649b2e56293408b5a5a7ede715043e58c140f8488b5403f3bf02124768ed7"), looks := true }, kinds := [], alts := [], laidByText := true, laidKinds := [.handle], laidTests := true, laidLooks := .later }
def LampTellsUptoCardSaid : Prop := Claim7.holds Tryd.pinned (.plain (OpenSpec.upto lampTellsSpec)) lampTellsUptoCard

/-- THE SECOND FORM's CARD OF 'selkielaw11.PncTells'. -/
def pncTellsUptoCard : Claim7 := { stood := { row := pncTellsUptoRow, standIns := [], harness := (true, "4e4649b2e56293408b5a5a7ede715043e58c140f8488b5403f3bf02124768ed7"), looks := true }, kinds := [], alts := [], laidByText := true, laidKinds := [.handle], laidTests := true, laidLooks := .later }
def PncTellsUptoCardSaid : Prop := Claim7.holds Tryd.pinned (.plain (OpenSpec.upto pncTellsSpec)) pncTellsUptoCard

/-- THE SECOND FORM's CARD OF 'selkielaw23.BallotTells'. -/
def ballotTellsUptoCard : Claim7 := { stood := { row := ballotTellsUptoRow, standIns := [], harness := (true, "4e4649b2e56293408b5a5a7ede715043e58c140f8488b5403f3bf02124768ed7"), looks := true }, kinds := [], alts := [], laidByText := true, laidKinds := [.handle], laidTests := true, laidLooks := .later }
def BallotTellsUptoCardSaid : Prop := Claim7.holds Tryd.pinned (.plain (OpenSpec.upto ballotTellsSpec)) ballotTellsUptoCard

/-- THE SECOND FORM's CARD OF 'selkielaw10.LwwTells'. -/
def lwwTellsUptoCard : Claim7 := { stood := { row := lwwTellsUptoRow, standIns := [], harness := (true, "4e4649b2e56293408b5a5a7ede715043e58c140f8488b5403f3bf02124768ed7"), looks := true }, kinds := [], alts := [], laidByText := true, laidKinds := [.handle], laidTests := true, laidLooks := .later }
def LwwTellsUptoCardSaid : Prop := Claim7.holds Tryd.pinned (.plain (OpenSpec.upto lwwTellsSpec)) lwwTellsUptoCard

/-- THE SECOND FORM's CARD OF 'selkielaw06.VecBytes'. -/
def vecBytesUptoCard : Claim7 := { stood := { row := vecBytesUptoRow, standIns := [], harness := (true, "4e4649b2e56293408b5a5a7ede715043e58c140f8488b5403f3bf02124768ed7"), looks := true }, kinds := [], alts := [], laidByText := true, laidKinds := [.handle], laidTests := true, laidLooks := .later }
def VecBytesUptoCardSaid : Prop := Claim7.holds Tryd.pinned (.plain (OpenSpec.upto vecBytesSpec)) vecBytesUptoCard
end Rows
end Go.Proofs.YtjckganigfblnaaDoor

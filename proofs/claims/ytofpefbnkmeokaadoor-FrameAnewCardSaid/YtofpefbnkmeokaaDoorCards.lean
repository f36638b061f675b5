/-
  DERIVED. GIVEN WITH THE SEED: THE CARDS: each row of YtofpefbnkmeokaaDoorRows.lean that lists a variable, with what it lists TIED to the program's text (the seventh form; the later family's looks); each row that meets fmt, with fmt's text TOLD by the authors' own Lean function (tested against real Go, not proved from fmt's source: count such statements apart). THE CARD IS WHAT COUNTS. Prove the row's statement (the work); the ties are given (YtofpefbnkmeokaaDoorTie.lean); close each card by the builder's one call (the guide's Derived/Test/ToyasCard.lean, 'card_holds'). Laid BY PROGRAM, IN A SANDBOX (cutbox-door.mjs). By AI agents, Wed Nov 11 2026. No macro, syntax, notation, axiom, sorry.
-/
import Derived.Test.YtofpefbnkmeokaaDoorRows
import GoSem.ClaimSeven
namespace Go.Proofs.YtofpefbnkmeokaaDoor
namespace Rows

/-- THE TIED CARD OF 'selkielaw04.FrameBack'. -/
def frameBackCard : Claim7 := { stood := { row := frameBackRow, standIns := [], harness := (true, "bed28a1abb8bd1d6f054b3bbdb24eb1b4ac5058343a277e2089a84be8056229b"), looks := true }, kinds := [], alts := [], laidByText := true, laidKinds := [.handle], laidTests := true, laidLooks := .later }
def FrameBackCardSaid : Prop := Claim7.holds Tryd.pinned (.plain (OpenSpec.ofChange frameBackSpec)) frameBackCard

/-- THE TIED CARD OF 'selkielaw04.FrameReads'. -/
def frameReadsCard : Claim7 := { stood := { row := frameReadsRow, standIns := [], harness := (true, "bed28a1abb8bd1d6f054b3bbdb24eb1b4ac5058343a277e2089a84be8056229b"), looks := true }, kinds := [], alts := [], laidByText := true, laidKinds := [.handle], laidTests := true, laidLooks := .later }
def FrameReadsCardSaid : Prop := Claim7.holds Tryd.pinned (.plain (OpenSpec.ofChange frameReadsSpec)) frameReadsCard

/-- THE TIED CARD OF 'selkielaw04.FrameAnew'. -/
def frameAnewCard : Claim7 := { stood := { row := frameAnewRow, standIns := [], harness := (true, "bed28a1abb8bd1d6f054b3bbdb24eb1b4ac5058343a277e2089a84be8056229b"), looks := true }, kinds := [], alts := [], laidByText := true, laidKinds := [.handle], laidTests := true, laidLooks := .later }
def FrameAnewCardSaid : Prop := Claim7.holds Tryd.pinned (.plain (OpenSpec.ofChange frameAnewSpec)) frameAnewCard

/-- THE TIED CARD OF 'selkielaw10.LwwTells'. -/
def lwwTellsCard : Claim7 := { stood := { row := lwwTellsRow, standIns := [], harness := (true, "bed28a1abb8bd1d6f054b3bbdb24eb1b4ac5058343a277e2089a84be8056229b"), looks := true }, kinds := [], alts := [], laidByText := true, laidKinds := [.handle], laidTests := true, laidLooks := .later }
def LwwTellsCardSaid : Prop := Claim7.holds Tryd.pinned (.plain (OpenSpec.ofChange lwwTellsSpec)) lwwTellsCard

/-- THE TIED CARD OF 'selkielaw06.VecBytes'. -/
def vecBytesCard : Claim7 := { stood := { row := vecBytesRow, standIns := [], harness := (true, "bed28a1abb8bd1d6f054b3bbdb24eb1b4ac5058343a277e2089a84be8056229b"), looks := true }, kinds := [], alts := [], laidByText := true, laidKinds := [.handle], laidTests := true, laidLooks := .later }
def VecBytesCardSaid : Prop := Claim7.holds Tryd.pinned (.plain (OpenSpec.ofChange vecBytesSpec)) vecBytesCard

/-- THE SECOND FORM's CARD OF 'selkielaw04.FrameBack'. -/
def frameBackUptoCard : Claim7 := { stood := { row := frameBackUptoRow, standIns := [], harness := (true, "bed28a1abb8bd1d6f054b3bbdb24eb1b4ac5058343a277e2089a84be8056229b"), looks := true }, kinds := [], alts := [], laidByText := true, laidKinds := [.handle], laidTests := true, laidLooks := .later }
def FrameBackUptoCardSaid : Prop := Claim7.holds Tryd.pinned (.plain (OpenSpec.upto frameBackSpec)) frameBackUptoCard

/-- THE SECOND FORM's CARD OF 'selkielaw04.FrameReads'. -/
def frameReadsUptoCard : Claim7 := { stood := { row := frameReadsUptoRow, standIns := [], harness := (true, "bed28a1abb8bd1d6f054b3bbdb24eb1b4ac5058343a277e2089a84be8056229b"), looks := true }, kinds := [], alts := [], laidByText := true, laidKinds := [.handle], laidTests := true, laidLooks := .later }
def FrameReadsUptoCardSaid : Prop := Claim7.holds Tryd.pinned (.plain (OpenSpec.upto frameReadsSpec)) frameReadsUptoCard

/-- THE SECOND FORM's CARD OF 'selkielaw04.FrameAnew'. -/
def frameAnewUptoCard : Claim7 := { stood := { row := frameAnewUptoRow, standIns := [], harness := (true, "bed28a1abb8bd1d6f054b3bbdb24eb1b4ac5058343a277e2089a84be8056229b"), looks := true }, kinds := [], alts := [], laidByText := true, laidKinds := [.handle], laidTests := true, laidLooks := .later }
def FrameAnewUptoCardSaid : Prop := Claim7.holds Tryd.pinned (.plain (OpenSpec.upto frameAnewSpec)) frameAnewUptoCard

/-- THE SECOND FORM's CARD OF 'selkielaw10.LwwTells'. -/
def lwwTellsUptoCard : Claim7 := { stood := { row := lwwTellsUptoRow, standIns := [], harness := (true, "bed28a1abb8bd1d6f054b3bbdb24eb1b4ac5058343a277e2089a84be8056229b"), looks := true }, kinds := [], alts := [], laidByText := true, laidKinds := [.handle], laidTests := true, laidLooks := .later }
def LwwTellsUptoCardSaid : Prop := Claim7.holds Tryd.pinned (.plain (OpenSpec.upto lwwTellsSpec)) lwwTellsUptoCard

/-- THE SECOND FORM's CARD OF 'selkielaw06.VecBytes'. -/
def vecBytesUptoCard : Claim7 := { stood := { row := vecBytesUptoRow, standIns := [], harness := (true, "bed28a1abb8bd1d6f054b3bbdb24eb1b4ac5058343a277e2089a84be8056229b"), looks := true }, kinds := [], alts := [], laidByText := true, laidKinds := [.handle], laidTests := true, laidLooks := .later }
def VecBytesUptoCardSaid : Prop := Claim7.holds Tryd.pinned (.plain (OpenSpec.upto vecBytesSpec)) vecBytesUptoCard
end Rows
end Go.Proofs.YtofpefbnkmeokaaDoor

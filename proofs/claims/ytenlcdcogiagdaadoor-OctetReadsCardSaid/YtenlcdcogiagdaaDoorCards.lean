/-
  DERIVED. GIVEN WITH THE SEED: THE CARDS: each row of YtenlcdcogiagdaaDoorRows.lean that lists a variable, with what it lists TIED to the program's text (the seventh form; the later family's looks); each row that meets fmt, with fmt's text TOLD by the authors' own Lean function (tested against real Go, not proved from fmt's source: count such statements apart). THE CARD IS WHAT COUNTS. Prove the row's statement (the work); the ties are given (YtenlcdcogiagdaaDoorTie.lean); close each card by the builder's one call (the guide's Derived/Test/ToyasCard.lean, 'card_holds'). Laid BY PROGRAM, IN A SANDBOX (cutbox-door.mjs). By AI agents, Wed Nov 11 2026. No macro, syntax, notation, axiom, sorry.
-/
import Derived.Test.YtenlcdcogiagdaaDoorRows
import GoSem.ClaimSeven
namespace Go.Proofs.YtenlcdcogiagdaaDoor
namespace Rows

/-- THE TIED CARD OF 'selkielaw02.OctetReads'. -/
def octetReadsCard : Claim7 := { stood := { row := octetReadsRow, standIns := [], harness := (true, "5dff801f1d23b17b57b0468a6d7ee1696a7011d53c8452f6898cbad9b38e4afd"), looks := true }, kinds := [], alts := [], laidByText := true, laidKinds := [.handle], laidTests := true, laidLooks := .later }
def OctetReadsCardSaid : Prop := Claim7.holds Tryd.pinned (.plain (OpenSpec.ofChange octetReadsSpec)) octetReadsCard

/-- THE TIED CARD OF 'selkielaw02.OctetBack'. -/
def octetBackCard : Claim7 := { stood := { row := octetBackRow, standIns := [], harness := (true, "5dff801f1d23b17b57b0468a6d7ee1696a7011d53c8452f6898cbad9b38e4afd"), looks := true }, kinds := [], alts := [], laidByText := true, laidKinds := [.handle], laidTests := true, laidLooks := .later }
def OctetBackCardSaid : Prop := Claim7.holds Tryd.pinned (.plain (OpenSpec.ofChange octetBackSpec)) octetBackCard

/-- THE TIED CARD OF 'selkielaw02.OctetOrder'. -/
def octetOrderCard : Claim7 := { stood := { row := octetOrderRow, standIns := [], harness := (true, "5dff801f1d23b17b57b0468a6d7ee1696a7011d53c8452f6898cbad9b38e4afd"), looks := true }, kinds := [], alts := [], laidByText := true, laidKinds := [.handle], laidTests := true, laidLooks := .later }
def OctetOrderCardSaid : Prop := Claim7.holds Tryd.pinned (.plain (OpenSpec.ofChange octetOrderSpec)) octetOrderCard

/-- THE TIED CARD OF 'selkielaw02.OctetOne'. -/
def octetOneCard : Claim7 := { stood := { row := octetOneRow, standIns := [], harness := (true, "5dff801f1d23b17b57b0468a6d7ee1696a7011d53c8452f6898cbad9b38e4afd"), looks := true }, kinds := [], alts := [], laidByText := true, laidKinds := [.handle], laidTests := true, laidLooks := .later }
def OctetOneCardSaid : Prop := Claim7.holds Tryd.pinned (.plain (OpenSpec.ofChange octetOneSpec)) octetOneCard

/-- THE TIED CARD OF 'selkielaw04.FrameBack'. -/
def frameBackCard : Claim7 := { stood := { row := frameBackRow, standIns := [], harness := (true, "5dff801f1d23b17b57b0468a6d7ee1696a7011d53c8452f6898cbad9b38e4afd"), looks := true }, kinds := [], alts := [], laidByText := true, laidKinds := [.handle], laidTests := true, laidLooks := .later }
def FrameBackCardSaid : Prop := Claim7.holds Tryd.pinned (.plain (OpenSpec.ofChange frameBackSpec)) frameBackCard

/-- THE TIED CARD OF 'selkielaw04.FrameWrites'. -/
def frameWritesCard : Claim7 := { stood := { row := frameWritesRow, standIns := [], harness := (true, "5dff801f1d23b17b57b0468a6d7ee1696a7011d53c8452f6898cbad9b38e4afd"), looks := true }, kinds := [], alts := [], laidByText := true, laidKinds := [.handle], laidTests := true, laidLooks := .later }
def FrameWritesCardSaid : Prop := Claim7.holds Tryd.pinned (.plain (OpenSpec.ofChange frameWritesSpec)) frameWritesCard

/-- THE TIED CARD OF 'selkielaw04.FrameReads'. -/
def frameReadsCard : Claim7 := { stood := { row := frameReadsRow, standIns := [], harness := (true, "5dff801f1d23b17b57b0468a6d7ee1696a7011d53c8452f6898cbad9b38e4afd"), looks := true }, kinds := [], alts := [], laidByText := true, laidKinds := [.handle], laidTests := true, laidLooks := .later }
def FrameReadsCardSaid : Prop := Claim7.holds Tryd.pinned (.plain (OpenSpec.ofChange frameReadsSpec)) frameReadsCard

/-- THE TIED CARD OF 'selkielaw04.FrameAnew'. -/
def frameAnewCard : Claim7 := { stood := { row := frameAnewRow, standIns := [], harness := (true, "5dff801f1d23b17b57b0468a6d7ee1696a7011d53c8452f6898cbad9b38e4afd"), looks := true }, kinds := [], alts := [], laidByText := true, laidKinds := [.handle], laidTests := true, laidLooks := .later }
def FrameAnewCardSaid : Prop := Claim7.holds Tryd.pinned (.plain (OpenSpec.ofChange frameAnewSpec)) frameAnewCard

/-- THE SECOND FORM's CARD OF 'selkielaw02.OctetReads'. -/
def octetReadsUptoCard : Claim7 := { stood := { row := octetReadsUptoRow, standIns := [], harness := (true, "5dff801f1d23b17b57b0468a6d7ee1696a7011d53c8452f6898cbad9b38e4afd"), looks := true }, kinds := [], alts := [], laidByText := true, laidKinds := [.handle], laidTests := true, laidLooks := .later }
def OctetReadsUptoCardSaid : Prop := Claim7.holds Tryd.pinned (.plain (OpenSpec.upto octetReadsSpec)) octetReadsUptoCard

/-- THE SECOND FORM's CARD OF 'selkielaw02.OctetBack'. -/
def octetBackUptoCard : Claim7 := { stood := { row := octetBackUptoRow, standIns := [], harness := (true, "5dff801f1d23b17b57b0468a6d7ee1696a7011d53c8452f6898cbad9b38e4afd"), looks := true }, kinds := [], alts := [], laidByText := true, laidKinds := [.handle], laidTests := true, laidLooks := .later }
def OctetBackUptoCardSaid : Prop := Claim7.holds Tryd.pinned (.plain (OpenSpec.upto octetBackSpec)) octetBackUptoCard

/-- THE SECOND FORM's CARD OF 'selkielaw02.OctetOrder'. -/
def octetOrderUptoCard : Claim7 := { stood := { row := octetOrderUptoRow, standIns := [], harness := (true, "5dff801f1d23b17b57b0468a6d7ee1696a7011d53c8452f6898cbad9b38e4afd"), looks := true }, kinds := [], alts := [], laidByText := true, laidKinds := [.handle], laidTests := true, laidLooks := .later }
def OctetOrderUptoCardSaid : Prop := Claim7.holds Tryd.pinned (.plain (OpenSpec.upto octetOrderSpec)) octetOrderUptoCard

/-- THE SECOND FORM's CARD OF 'selkielaw02.OctetOne'. -/
def octetOneUptoCard : Claim7 := { stood := { row := octetOneUptoRow, standIns := [], harness := (true, "5dff801f1d23b17b57b0468a6d7ee1696a7011d53c8452f6898cbad9b38e4afd"), looks := true }, kinds := [], alts := [], laidByText := true, laidKinds := [.handle], laidTests := true, laidLooks := .later }
def OctetOneUptoCardSaid : Prop := Claim7.holds Tryd.pinned (.plain (OpenSpec.upto octetOneSpec)) octetOneUptoCard

/-- THE SECOND FORM's CARD OF 'selkielaw04.FrameBack'. -/
def frameBackUptoCard : Claim7 := { stood := { row := frameBackUptoRow, standIns := [], harness := (true, "5dff801f1d23b17b57b0468a6d7ee1696a7011d53c8452f6898cbad9b38e4afd"), looks := true }, kinds := [], alts := [], laidByText := true, laidKinds := [.handle], laidTests := true, laidLooks := .later }
def FrameBackUptoCardSaid : Prop := Claim7.holds Tryd.pinned (.plain (OpenSpec.upto frameBackSpec)) frameBackUptoCard

/-- THE SECOND FORM's CARD OF 'selkielaw04.FrameWrites'. -/
def frameWritesUptoCard : Claim7 := { stood := { row := frameWritesUptoRow, standIns := [], harness := (true, "5dff801f1d23b17b57b0468a6d7ee1696a7011d53c8452f6898cbad9b38e4afd"), looks := true }, kinds := [], alts := [], laidByText := true, laidKinds := [.handle], laidTests := true, laidLooks := .later }
def FrameWritesUptoCardSaid : Prop := Claim7.holds Tryd.pinned (.plain (OpenSpec.upto frameWritesSpec)) frameWritesUptoCard

/-- THE SECOND FORM's CARD OF 'selkielaw04.FrameReads'. -/
def frameReadsUptoCard : Claim7 := { stood := { row := frameReadsUptoRow, standIns := [], harness := (true, "5dff801f1d23b17b57b0468a6d7ee1696a7011d53c8452f6898cbad9b38e4afd"), looks := true }, kinds := [], alts := [], laidByText := true, laidKinds := [.handle], laidTests := true, laidLooks := .later }
def FrameReadsUptoCardSaid : Prop := Claim7.holds Tryd.pinned (.plain (OpenSpec.upto frameReadsSpec)) frameReadsUptoCard

/-- THE SECOND FORM's CARD OF 'selkielaw04.FrameAnew'. -/
def frameAnewUptoCard : Claim7 := { stood := { row := frameAnewUptoRow, standIns := [], harness := (true, "5dff801f1d23b17b57b0468a6d7ee1696a7011d53c8452f6898cbad9b38e4afd"), looks := true }, kinds := [], alts := [], laidByText := true, laidKinds := [.handle], laidTests := true, laidLooks := .later }
def FrameAnewUptoCardSaid : Prop := Claim7.holds Tryd.pinned (.plain (OpenSpec.upto frameAnewSpec)) frameAnewUptoCard
end Rows
end Go.Proofs.YtenlcdcogiagdaaDoor

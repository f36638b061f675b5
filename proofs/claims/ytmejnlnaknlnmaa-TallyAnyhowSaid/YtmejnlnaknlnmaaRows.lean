/-
  No cell of these rows narrows 'for every input' (looked for: loops, veiled, ifaces, maps, wideKeys, modest, calm, conditions, laid).
  DERIVED. THE GIVEN ROWS OF THIS SEAT. 12 by the template 'for every input the law returns true; each argument reads behind the call as it read before'; 0 by the template 'total and deterministic' (their statements: YtmejnlnaknlnmaaTotals.lean).
  GIVEN WITH THE SEED: the statements are not yours to turn. If you find one false, say at which input.
  Laid BY PROGRAM, IN A SANDBOX (cutbox-rows.mjs): the forced cells as the released guide's own fill.sh prints them over the translation 8a69b19fe58fc06c… (all of the seat's roots in one cut). By AI agents, Wed Nov 11 2026. No macro, syntax, notation, axiom, sorry.
-/
import Derived.Test.YtmejnlnaknlnmaaChecked
import GoSem.Claim
import GoSem.ClaimJoined
import GoSem.ClaimMapViews
import Derived.JoinedTies
import Derived.KernelRfl
namespace Go.Proofs.Ytmejnlnaknlnmaa
/- THE CELL 'sum', in the pinned program and in every row, IS THE sha256 OF THE DUMP (.gsa) THAT YtmejnlnaknlnmaaProg.lean LOADS. Nothing in Lean hashes anything: it is a label: what it is worth is what the hold of that sum in a sandbox is worth. -/
noncomputable def Try.pinned : Pinned := { name := "ytmejnlnaknlnmaa", sum := "8a69b19fe58fc06c89102a73b346f1039a617cb5ba6329b308a84c42874c9829", checked := Try.checked }
namespace Rows
def none {H : Type} : Left H := { results := [], args := [] }

/-- 'selkielaw23.BallotCounts': WHATEVER THE INPUT: true; the input reads as it did. -/
def ballotCountsSpec : ChangeSpec := { name := "ballotCounts", fn := fun _ => fun
  | [d] => { results := [.lit (.bool true)], args := [d] }
  | _ => none }
def ballotCountsRow : OpenClaim := { program := "ytmejnlnaknlnmaa", sum := "8a69b19fe58fc06c89102a73b346f1039a617cb5ba6329b308a84c42874c9829", func := "selkie/selkielaw23.BallotCounts", spec := "ballotCounts", apart := false }
def BallotCountsSaid : Prop := ballotCountsRow.holds Try.pinned (OpenSpec.ofChange ballotCountsSpec)

/-- ITS FALSE NEIGHBOUR: 'it returns false'. Refute it at one input. -/
def ballotCountsWrong : ChangeSpec := { name := "ballotCounts", fn := fun _ => fun
  | [d] => { results := [.lit (.bool false)], args := [d] }
  | _ => none }
def BallotCountsWrongFalsely : Prop := ballotCountsRow.holds Try.pinned (OpenSpec.ofChange ballotCountsWrong)

/-- 'selkielaw01.TallyAmounts': WHATEVER THE INPUT: true; the input reads as it did. -/
def tallyAmountsSpec : ChangeSpec := { name := "tallyAmounts", fn := fun _ => fun
  | [d1, d2] => { results := [.lit (.bool true)], args := [d1, d2] }
  | _ => none }
def tallyAmountsRow : OpenClaim := { program := "ytmejnlnaknlnmaa", sum := "8a69b19fe58fc06c89102a73b346f1039a617cb5ba6329b308a84c42874c9829", func := "selkie/selkielaw01.TallyAmounts", spec := "tallyAmounts", apart := false }
def TallyAmountsSaid : Prop := tallyAmountsRow.holds Try.pinned (OpenSpec.ofChange tallyAmountsSpec)

/-- ITS FALSE NEIGHBOUR: 'it returns false'. Refute it at one input. -/
def tallyAmountsWrong : ChangeSpec := { name := "tallyAmounts", fn := fun _ => fun
  | [d1, d2] => { results := [.lit (.bool false)], args := [d1, d2] }
  | _ => none }
def TallyAmountsWrongFalsely : Prop := tallyAmountsRow.holds Try.pinned (OpenSpec.ofChange tallyAmountsWrong)

/-- 'selkielaw01.TallyCounts': WHATEVER THE INPUT: true; the input reads as it did. -/
def tallyCountsSpec : ChangeSpec := { name := "tallyCounts", fn := fun _ => fun
  | [d1, d2] => { results := [.lit (.bool true)], args := [d1, d2] }
  | _ => none }
def tallyCountsRow : OpenClaim := { program := "ytmejnlnaknlnmaa", sum := "8a69b19fe58fc06c89102a73b346f1039a617cb5ba6329b308a84c42874c9829", func := "selkie/selkielaw01.TallyCounts", spec := "tallyCounts", apart := false }
def TallyCountsSaid : Prop := tallyCountsRow.holds Try.pinned (OpenSpec.ofChange tallyCountsSpec)

/-- ITS FALSE NEIGHBOUR: 'it returns false'. Refute it at one input. -/
def tallyCountsWrong : ChangeSpec := { name := "tallyCounts", fn := fun _ => fun
  | [d1, d2] => { results := [.lit (.bool false)], args := [d1, d2] }
  | _ => none }
def TallyCountsWrongFalsely : Prop := tallyCountsRow.holds Try.pinned (OpenSpec.ofChange tallyCountsWrong)

/-- 'selkielaw01.TallySizes': WHATEVER THE INPUT: true; the input reads as it did. -/
def tallySizesSpec : ChangeSpec := { name := "tallySizes", fn := fun _ => fun
  | [d1, d2] => { results := [.lit (.bool true)], args := [d1, d2] }
  | _ => none }
def tallySizesRow : OpenClaim := { program := "ytmejnlnaknlnmaa", sum := "8a69b19fe58fc06c89102a73b346f1039a617cb5ba6329b308a84c42874c9829", func := "selkie/selkielaw01.TallySizes", spec := "tallySizes", apart := false }
def TallySizesSaid : Prop := tallySizesRow.holds Try.pinned (OpenSpec.ofChange tallySizesSpec)

/-- ITS FALSE NEIGHBOUR: 'it returns false'. Refute it at one input. -/
def tallySizesWrong : ChangeSpec := { name := "tallySizes", fn := fun _ => fun
  | [d1, d2] => { results := [.lit (.bool false)], args := [d1, d2] }
  | _ => none }
def TallySizesWrongFalsely : Prop := tallySizesRow.holds Try.pinned (OpenSpec.ofChange tallySizesWrong)

/-- 'selkielaw03.SumTells': WHATEVER THE INPUT: true; the input reads as it did. -/
def sumTellsSpec : ChangeSpec := { name := "sumTells", fn := fun _ => fun
  | [d1, d2] => { results := [.lit (.bool true)], args := [d1, d2] }
  | _ => none }
def sumTellsRow : OpenClaim := { program := "ytmejnlnaknlnmaa", sum := "8a69b19fe58fc06c89102a73b346f1039a617cb5ba6329b308a84c42874c9829", func := "selkie/selkielaw03.SumTells", spec := "sumTells", apart := false }
def SumTellsSaid : Prop := sumTellsRow.holds Try.pinned (OpenSpec.ofChange sumTellsSpec)

/-- ITS FALSE NEIGHBOUR: 'it returns false'. Refute it at one input. -/
def sumTellsWrong : ChangeSpec := { name := "sumTells", fn := fun _ => fun
  | [d1, d2] => { results := [.lit (.bool false)], args := [d1, d2] }
  | _ => none }
def SumTellsWrongFalsely : Prop := sumTellsRow.holds Try.pinned (OpenSpec.ofChange sumTellsWrong)

/-- 'selkielaw03.SumParts': WHATEVER THE INPUT: true; the input reads as it did. -/
def sumPartsSpec : ChangeSpec := { name := "sumParts", fn := fun _ => fun
  | [d1, d2] => { results := [.lit (.bool true)], args := [d1, d2] }
  | _ => none }
def sumPartsRow : OpenClaim := { program := "ytmejnlnaknlnmaa", sum := "8a69b19fe58fc06c89102a73b346f1039a617cb5ba6329b308a84c42874c9829", func := "selkie/selkielaw03.SumParts", spec := "sumParts", apart := false }
def SumPartsSaid : Prop := sumPartsRow.holds Try.pinned (OpenSpec.ofChange sumPartsSpec)

/-- ITS FALSE NEIGHBOUR: 'it returns false'. Refute it at one input. -/
def sumPartsWrong : ChangeSpec := { name := "sumParts", fn := fun _ => fun
  | [d1, d2] => { results := [.lit (.bool false)], args := [d1, d2] }
  | _ => none }
def SumPartsWrongFalsely : Prop := sumPartsRow.holds Try.pinned (OpenSpec.ofChange sumPartsWrong)

/-- 'selkielaw03.SumBursts': WHATEVER THE INPUT: true; the input reads as it did. -/
def sumBurstsSpec : ChangeSpec := { name := "sumBursts", fn := fun _ => fun
  | [d1, d2, d3] => { results := [.lit (.bool true)], args := [d1, d2, d3] }
  | _ => none }
def sumBurstsRow : OpenClaim := { program := "ytmejnlnaknlnmaa", sum := "8a69b19fe58fc06c89102a73b346f1039a617cb5ba6329b308a84c42874c9829", func := "selkie/selkielaw03.SumBursts", spec := "sumBursts", apart := false }
def SumBurstsSaid : Prop := sumBurstsRow.holds Try.pinned (OpenSpec.ofChange sumBurstsSpec)

/-- ITS FALSE NEIGHBOUR: 'it returns false'. Refute it at one input. -/
def sumBurstsWrong : ChangeSpec := { name := "sumBursts", fn := fun _ => fun
  | [d1, d2, d3] => { results := [.lit (.bool false)], args := [d1, d2, d3] }
  | _ => none }
def SumBurstsWrongFalsely : Prop := sumBurstsRow.holds Try.pinned (OpenSpec.ofChange sumBurstsWrong)

/-- 'selkielaw01.TallySums': WHATEVER THE INPUT: true; the input reads as it did. -/
def tallySumsSpec : ChangeSpec := { name := "tallySums", fn := fun _ => fun
  | [d] => { results := [.lit (.bool true)], args := [d] }
  | _ => none }
def tallySumsRow : OpenClaim := { program := "ytmejnlnaknlnmaa", sum := "8a69b19fe58fc06c89102a73b346f1039a617cb5ba6329b308a84c42874c9829", func := "selkie/selkielaw01.TallySums", spec := "tallySums", apart := false }
def TallySumsSaid : Prop := tallySumsRow.holds Try.pinned (OpenSpec.ofChange tallySumsSpec)

/-- ITS FALSE NEIGHBOUR: 'it returns false'. Refute it at one input. -/
def tallySumsWrong : ChangeSpec := { name := "tallySums", fn := fun _ => fun
  | [d] => { results := [.lit (.bool false)], args := [d] }
  | _ => none }
def TallySumsWrongFalsely : Prop := tallySumsRow.holds Try.pinned (OpenSpec.ofChange tallySumsWrong)

/-- 'selkielaw23.BallotMeets': WHATEVER THE INPUT: true; the input reads as it did. -/
def ballotMeetsSpec : ChangeSpec := { name := "ballotMeets", fn := fun _ => fun
  | [d1, d2, d3, d4] => { results := [.lit (.bool true)], args := [d1, d2, d3, d4] }
  | _ => none }
def ballotMeetsRow : OpenClaim := { program := "ytmejnlnaknlnmaa", sum := "8a69b19fe58fc06c89102a73b346f1039a617cb5ba6329b308a84c42874c9829", func := "selkie/selkielaw23.BallotMeets", spec := "ballotMeets", apart := false }
def BallotMeetsSaid : Prop := ballotMeetsRow.holds Try.pinned (OpenSpec.ofChange ballotMeetsSpec)

/-- ITS FALSE NEIGHBOUR: 'it returns false'. Refute it at one input. -/
def ballotMeetsWrong : ChangeSpec := { name := "ballotMeets", fn := fun _ => fun
  | [d1, d2, d3, d4] => { results := [.lit (.bool false)], args := [d1, d2, d3, d4] }
  | _ => none }
def BallotMeetsWrongFalsely : Prop := ballotMeetsRow.holds Try.pinned (OpenSpec.ofChange ballotMeetsWrong)

/-- 'selkielaw01.TallyAnyhow': WHATEVER THE INPUT: true; the input reads as it did. -/
def tallyAnyhowSpec : ChangeSpec := { name := "tallyAnyhow", fn := fun _ => fun
  | [d1, d2, d3, d4] => { results := [.lit (.bool true)], args := [d1, d2, d3, d4] }
  | _ => none }
def tallyAnyhowRow : OpenClaim := { program := "ytmejnlnaknlnmaa", sum := "8a69b19fe58fc06c89102a73b346f1039a617cb5ba6329b308a84c42874c9829", func := "selkie/selkielaw01.TallyAnyhow", spec := "tallyAnyhow", apart := false }
def TallyAnyhowSaid : Prop := tallyAnyhowRow.holds Try.pinned (OpenSpec.ofChange tallyAnyhowSpec)

/-- ITS FALSE NEIGHBOUR: 'it returns false'. Refute it at one input. -/
def tallyAnyhowWrong : ChangeSpec := { name := "tallyAnyhow", fn := fun _ => fun
  | [d1, d2, d3, d4] => { results := [.lit (.bool false)], args := [d1, d2, d3, d4] }
  | _ => none }
def TallyAnyhowWrongFalsely : Prop := tallyAnyhowRow.holds Try.pinned (OpenSpec.ofChange tallyAnyhowWrong)

/-- 'selkielaw01.TallyBack': WHATEVER THE INPUT: true; the input reads as it did. -/
def tallyBackSpec : ChangeSpec := { name := "tallyBack", fn := fun _ => fun
  | [d1, d2] => { results := [.lit (.bool true)], args := [d1, d2] }
  | _ => none }
def tallyBackRow : OpenClaim := { program := "ytmejnlnaknlnmaa", sum := "8a69b19fe58fc06c89102a73b346f1039a617cb5ba6329b308a84c42874c9829", func := "selkie/selkielaw01.TallyBack", spec := "tallyBack", apart := false }
def TallyBackSaid : Prop := tallyBackRow.holds Try.pinned (OpenSpec.ofChange tallyBackSpec)

/-- ITS FALSE NEIGHBOUR: 'it returns false'. Refute it at one input. -/
def tallyBackWrong : ChangeSpec := { name := "tallyBack", fn := fun _ => fun
  | [d1, d2] => { results := [.lit (.bool false)], args := [d1, d2] }
  | _ => none }
def TallyBackWrongFalsely : Prop := tallyBackRow.holds Try.pinned (OpenSpec.ofChange tallyBackWrong)

/-- 'selkielaw23.BallotOrder': WHATEVER THE INPUT: true; the input reads as it did. -/
def ballotOrderSpec : ChangeSpec := { name := "ballotOrder", fn := fun _ => fun
  | [d1, d2, d3, d4] => { results := [.lit (.bool true)], args := [d1, d2, d3, d4] }
  | _ => none }
def ballotOrderRow : OpenClaim := { program := "ytmejnlnaknlnmaa", sum := "8a69b19fe58fc06c89102a73b346f1039a617cb5ba6329b308a84c42874c9829", func := "selkie/selkielaw23.BallotOrder", spec := "ballotOrder", apart := false }
def BallotOrderSaid : Prop := ballotOrderRow.holds Try.pinned (OpenSpec.ofChange ballotOrderSpec)

/-- ITS FALSE NEIGHBOUR: 'it returns false'. Refute it at one input. -/
def ballotOrderWrong : ChangeSpec := { name := "ballotOrder", fn := fun _ => fun
  | [d1, d2, d3, d4] => { results := [.lit (.bool false)], args := [d1, d2, d3, d4] }
  | _ => none }
def BallotOrderWrongFalsely : Prop := ballotOrderRow.holds Try.pinned (OpenSpec.ofChange ballotOrderWrong)

/- THE SECOND FORM. 'bulk': how many values and letters a reading holds, each counted each time it is reached (what is shared counts as often as it is met; a slice's spare places count too). A statement '..UptoSaid' is the law's where the arguments, and the package variables that the reading takes, are together of bulk at most 1048576: NARROWER than '..Said'. Prove '..Said' where nothing that the law and all that it calls make is longer than what came in: it says more and counts as full. Else prove '..UptoSaid'. A law counts once. -/
mutual
def uptoBulk {H : Type} : DataW H → Nat
  | .lit (.string bytes) => bytes.length + 1
  | .lit _ => 1
  | .nil => 1
  | .ptr d => uptoBulk d + 1
  | .slice elems spare => uptoBulkAll elems + uptoBulkAll spare + 1
  | .agg parts => uptoBulkAll parts + 1
  | .iface _ d => uptoBulk d + 1
  | .map entries => uptoBulkEntries entries + 1
  | .held _ => 1
def uptoBulkAll {H : Type} : List (DataW H) → Nat
  | [] => 0
  | d :: r => uptoBulk d + uptoBulkAll r
def uptoBulkEntries {H : Type} : List (Lit × DataW H) → Nat
  | [] => 0
  | x :: r => uptoBulkEntry x + uptoBulkEntries r
def uptoBulkEntry {H : Type} : Lit × DataW H → Nat
  | (.string bytes, d) => bytes.length + uptoBulk d + 1
  | (_, d) => uptoBulk d + 1
 end
def uptoSmall : (H : Type) → List (DataW H) → Bool := fun _ ds => decide (uptoBulkAll ds ≤ 1048576)
def OpenSpec.upto (s : _root_.Go.ChangeSpec) : _root_.Go.OpenSpec := { _root_.Go.OpenSpec.ofChange s with cond := some uptoSmall }

/-- 'selkielaw23.BallotCounts', WHERE WHAT IT READS IS OF BULK AT MOST 1048576: true; the input reads as it did. -/
def ballotCountsUptoRow : OpenClaim := { program := "ytmejnlnaknlnmaa", sum := "8a69b19fe58fc06c89102a73b346f1039a617cb5ba6329b308a84c42874c9829", func := "selkie/selkielaw23.BallotCounts", spec := "ballotCounts", apart := false, narrowed := true }
def BallotCountsUptoSaid : Prop := ballotCountsUptoRow.holds Try.pinned (OpenSpec.upto ballotCountsSpec)

/-- 'selkielaw01.TallyAmounts', WHERE WHAT IT READS IS OF BULK AT MOST 1048576: true; the input reads as it did. -/
def tallyAmountsUptoRow : OpenClaim := { program := "ytmejnlnaknlnmaa", sum := "8a69b19fe58fc06c89102a73b346f1039a617cb5ba6329b308a84c42874c9829", func := "selkie/selkielaw01.TallyAmounts", spec := "tallyAmounts", apart := false, narrowed := true }
def TallyAmountsUptoSaid : Prop := tallyAmountsUptoRow.holds Try.pinned (OpenSpec.upto tallyAmountsSpec)

/-- 'selkielaw01.TallyCounts', WHERE WHAT IT READS IS OF BULK AT MOST 1048576: true; the input reads as it did. -/
def tallyCountsUptoRow : OpenClaim := { program := "ytmejnlnaknlnmaa", sum := "8a69b19fe58fc06c89102a73b346f1039a617cb5ba6329b308a84c42874c9829", func := "selkie/selkielaw01.TallyCounts", spec := "tallyCounts", apart := false, narrowed := true }
def TallyCountsUptoSaid : Prop := tallyCountsUptoRow.holds Try.pinned (OpenSpec.upto tallyCountsSpec)

/-- 'selkielaw01.TallySizes', WHERE WHAT IT READS IS OF BULK AT MOST 1048576: true; the input reads as it did. -/
def tallySizesUptoRow : OpenClaim := { program := "ytmejnlnaknlnmaa", sum := "8a69b19fe58fc06c89102a73b346f1039a617cb5ba6329b308a84c42874c9829", func := "selkie/selkielaw01.TallySizes", spec := "tallySizes", apart := false, narrowed := true }
def TallySizesUptoSaid : Prop := tallySizesUptoRow.holds Try.pinned (OpenSpec.upto tallySizesSpec)

/-- 'selkielaw03.SumTells', WHERE WHAT IT READS IS OF BULK AT MOST 1048576: true; the input reads as it did. -/
def sumTellsUptoRow : OpenClaim := { program := "ytmejnlnaknlnmaa", sum := "8a69b19fe58fc06c89102a73b346f1039a617cb5ba6329b308a84c42874c9829", func := "selkie/selkielaw03.SumTells", spec := "sumTells", apart := false, narrowed := true }
def SumTellsUptoSaid : Prop := sumTellsUptoRow.holds Try.pinned (OpenSpec.upto sumTellsSpec)

/-- 'selkielaw03.SumParts', WHERE WHAT IT READS IS OF BULK AT MOST 1048576: true; the input reads as it did. -/
def sumPartsUptoRow : OpenClaim := { program := "ytmejnlnaknlnmaa", sum := "8a69b19fe58fc06c89102a73b346f1039a617cb5ba6329b308a84c42874c9829", func := "selkie/selkielaw03.SumParts", spec := "sumParts", apart := false, narrowed := true }
def SumPartsUptoSaid : Prop := sumPartsUptoRow.holds Try.pinned (OpenSpec.upto sumPartsSpec)

/-- 'selkielaw03.SumBursts', WHERE WHAT IT READS IS OF BULK AT MOST 1048576: true; the input reads as it did. -/
def sumBurstsUptoRow : OpenClaim := { program := "ytmejnlnaknlnmaa", sum := "8a69b19fe58fc06c89102a73b346f1039a617cb5ba6329b308a84c42874c9829", func := "selkie/selkielaw03.SumBursts", spec := "sumBursts", apart := false, narrowed := true }
def SumBurstsUptoSaid : Prop := sumBurstsUptoRow.holds Try.pinned (OpenSpec.upto sumBurstsSpec)

/-- 'selkielaw01.TallySums', WHERE WHAT IT READS IS OF BULK AT MOST 1048576: true; the input reads as it did. -/
def tallySumsUptoRow : OpenClaim := { program := "ytmejnlnaknlnmaa", sum := "8a69b19fe58fc06c89102a73b346f1039a617cb5ba6329b308a84c42874c9829", func := "selkie/selkielaw01.TallySums", spec := "tallySums", apart := false, narrowed := true }
def TallySumsUptoSaid : Prop := tallySumsUptoRow.holds Try.pinned (OpenSpec.upto tallySumsSpec)

/-- 'selkielaw23.BallotMeets', WHERE WHAT IT READS IS OF BULK AT MOST 1048576: true; the input reads as it did. -/
def ballotMeetsUptoRow : OpenClaim := { program := "ytmejnlnaknlnmaa", sum := "8a69b19fe58fc06c89102a73b346f1039a617cb5ba6329b308a84c42874c9829", func := "selkie/selkielaw23.BallotMeets", spec := "ballotMeets", apart := false, narrowed := true }
def BallotMeetsUptoSaid : Prop := ballotMeetsUptoRow.holds Try.pinned (OpenSpec.upto ballotMeetsSpec)

/-- 'selkielaw01.TallyAnyhow', WHERE WHAT IT READS IS OF BULK AT MOST 1048576: true; the input reads as it did. -/
def tallyAnyhowUptoRow : OpenClaim := { program := "ytmejnlnaknlnmaa", sum := "8a69b19fe58fc06c89102a73b346f1039a617cb5ba6329b308a84c42874c9829", func := "selkie/selkielaw01.TallyAnyhow", spec := "tallyAnyhow", apart := false, narrowed := true }
def TallyAnyhowUptoSaid : Prop := tallyAnyhowUptoRow.holds Try.pinned (OpenSpec.upto tallyAnyhowSpec)

/-- 'selkielaw01.TallyBack', WHERE WHAT IT READS IS OF BULK AT MOST 1048576: true; the input reads as it did. -/
def tallyBackUptoRow : OpenClaim := { program := "ytmejnlnaknlnmaa", sum := "8a69b19fe58fc06c89102a73b346f1039a617cb5ba6329b308a84c42874c9829", func := "selkie/selkielaw01.TallyBack", spec := "tallyBack", apart := false, narrowed := true }
def TallyBackUptoSaid : Prop := tallyBackUptoRow.holds Try.pinned (OpenSpec.upto tallyBackSpec)

/-- 'selkielaw23.BallotOrder', WHERE WHAT IT READS IS OF BULK AT MOST 1048576: true; the input reads as it did. -/
def ballotOrderUptoRow : OpenClaim := { program := "ytmejnlnaknlnmaa", sum := "8a69b19fe58fc06c89102a73b346f1039a617cb5ba6329b308a84c42874c9829", func := "selkie/selkielaw23.BallotOrder", spec := "ballotOrder", apart := false, narrowed := true }
def BallotOrderUptoSaid : Prop := ballotOrderUptoRow.holds Try.pinned (OpenSpec.upto ballotOrderSpec)

end Rows
end Go.Proofs.Ytmejnlnaknlnmaa

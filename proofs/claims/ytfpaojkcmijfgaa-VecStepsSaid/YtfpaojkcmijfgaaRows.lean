/-
  No cell of these rows narrows 'for every input' (looked for: loops, veiled, ifaces, maps, wideKeys, modest, calm, conditions, laid).
  DERIVED. THE GIVEN ROWS OF THIS SEAT. 9 by the template 'for every input the law returns true; each argument reads behind the call as it read before'; 0 by the template 'total and deterministic' (their statements: YtfpaojkcmijfgaaTotals.lean).
  GIVEN WITH THE SEED: the statements are not yours to turn. If you find one false, say at which input.
  Laid BY PROGRAM, IN A SANDBOX (cutbox-rows.mjs): the forced cells as the released guide's own fill.sh prints them over the translation 2a415d441c559992… (all of the seat's roots in one cut). By AI agents, Wed Nov 11 2026. No macro, syntax, notation, axiom, sorry.
-/
import Derived.Test.YtfpaojkcmijfgaaChecked
import GoSem.Claim
import GoSem.ClaimJoined
import GoSem.ClaimMapViews
import Derived.JoinedTies
import Derived.KernelRfl
namespace Go.Proofs.Ytfpaojkcmijfgaa
/- THE CELL 'sum', in the pinned program and in every row, IS THE sha256 OF THE DUMP (.gsa) THAT YtfpaojkcmijfgaaProg.lean LOADS. Nothing in Lean hashes anything: it is a label: what it is worth is what the hold of that sum in a sandbox is worth. -/
noncomputable def Try.pinned : Pinned := { name := "ytfpaojkcmijfgaa", sum := "2a415d441c55999264c953417fd02f6c9d9a8ce9f1a18fec7eaeb0193bdeccf4", checked := Try.checked }
namespace Rows
def none {H : Type} : Left H := { results := [], args := [] }

/-- 'selkielaw11.PncAnyhow': WHATEVER THE INPUT: true; the input reads as it did. -/
def pncAnyhowSpec : ChangeSpec := { name := "pncAnyhow", fn := fun _ => fun
  | [d] => { results := [.lit (.bool true)], args := [d] }
  | _ => none }
def pncAnyhowRow : OpenClaim := { program := "ytfpaojkcmijfgaa", sum := "2a415d441c55999264c953417fd02f6c9d9a8ce9f1a18fec7eaeb0193bdeccf4", func := "selkie/selkielaw11.PncAnyhow", spec := "pncAnyhow", plainKeys := false, apart := false }
def PncAnyhowSaid : Prop := pncAnyhowRow.holds Try.pinned (OpenSpec.ofChange pncAnyhowSpec)

/-- ITS FALSE NEIGHBOUR: 'it returns false'. Refute it at one input. -/
def pncAnyhowWrong : ChangeSpec := { name := "pncAnyhow", fn := fun _ => fun
  | [d] => { results := [.lit (.bool false)], args := [d] }
  | _ => none }
def PncAnyhowWrongFalsely : Prop := pncAnyhowRow.holds Try.pinned (OpenSpec.ofChange pncAnyhowWrong)

/-- 'selkielaw09.LampDoes': WHATEVER THE INPUT: true; the input reads as it did. -/
def lampDoesSpec : ChangeSpec := { name := "lampDoes", fn := fun _ => fun
  | [d1, d2] => { results := [.lit (.bool true)], args := [d1, d2] }
  | _ => none }
def lampDoesRow : OpenClaim := { program := "ytfpaojkcmijfgaa", sum := "2a415d441c55999264c953417fd02f6c9d9a8ce9f1a18fec7eaeb0193bdeccf4", func := "selkie/selkielaw09.LampDoes", spec := "lampDoes", plainKeys := false, apart := false }
def LampDoesSaid : Prop := lampDoesRow.holds Try.pinned (OpenSpec.ofChange lampDoesSpec)

/-- ITS FALSE NEIGHBOUR: 'it returns false'. Refute it at one input. -/
def lampDoesWrong : ChangeSpec := { name := "lampDoes", fn := fun _ => fun
  | [d1, d2] => { results := [.lit (.bool false)], args := [d1, d2] }
  | _ => none }
def LampDoesWrongFalsely : Prop := lampDoesRow.holds Try.pinned (OpenSpec.ofChange lampDoesWrong)

/-- 'selkielaw10.LwwAnyhow': WHATEVER THE INPUT: true; the input reads as it did. -/
def lwwAnyhowSpec : ChangeSpec := { name := "lwwAnyhow", fn := fun _ => fun
  | [d] => { results := [.lit (.bool true)], args := [d] }
  | _ => none }
def lwwAnyhowRow : OpenClaim := { program := "ytfpaojkcmijfgaa", sum := "2a415d441c55999264c953417fd02f6c9d9a8ce9f1a18fec7eaeb0193bdeccf4", func := "selkie/selkielaw10.LwwAnyhow", spec := "lwwAnyhow", plainKeys := false, apart := false }
def LwwAnyhowSaid : Prop := lwwAnyhowRow.holds Try.pinned (OpenSpec.ofChange lwwAnyhowSpec)

/-- ITS FALSE NEIGHBOUR: 'it returns false'. Refute it at one input. -/
def lwwAnyhowWrong : ChangeSpec := { name := "lwwAnyhow", fn := fun _ => fun
  | [d] => { results := [.lit (.bool false)], args := [d] }
  | _ => none }
def LwwAnyhowWrongFalsely : Prop := lwwAnyhowRow.holds Try.pinned (OpenSpec.ofChange lwwAnyhowWrong)

/-- 'selkielaw10.LwwMerge': WHATEVER THE INPUT: true; the input reads as it did. -/
def lwwMergeSpec : ChangeSpec := { name := "lwwMerge", fn := fun _ => fun
  | [d1, d2, d3] => { results := [.lit (.bool true)], args := [d1, d2, d3] }
  | _ => none }
def lwwMergeRow : OpenClaim := { program := "ytfpaojkcmijfgaa", sum := "2a415d441c55999264c953417fd02f6c9d9a8ce9f1a18fec7eaeb0193bdeccf4", func := "selkie/selkielaw10.LwwMerge", spec := "lwwMerge", plainKeys := false, apart := false }
def LwwMergeSaid : Prop := lwwMergeRow.holds Try.pinned (OpenSpec.ofChange lwwMergeSpec)

/-- ITS FALSE NEIGHBOUR: 'it returns false'. Refute it at one input. -/
def lwwMergeWrong : ChangeSpec := { name := "lwwMerge", fn := fun _ => fun
  | [d1, d2, d3] => { results := [.lit (.bool false)], args := [d1, d2, d3] }
  | _ => none }
def LwwMergeWrongFalsely : Prop := lwwMergeRow.holds Try.pinned (OpenSpec.ofChange lwwMergeWrong)

/-- 'selkielaw06.VecTakes': WHATEVER THE INPUT: true; the input reads as it did. -/
def vecTakesSpec : ChangeSpec := { name := "vecTakes", fn := fun _ => fun
  | [d1, d2] => { results := [.lit (.bool true)], args := [d1, d2] }
  | _ => none }
def vecTakesRow : OpenClaim := { program := "ytfpaojkcmijfgaa", sum := "2a415d441c55999264c953417fd02f6c9d9a8ce9f1a18fec7eaeb0193bdeccf4", func := "selkie/selkielaw06.VecTakes", spec := "vecTakes", plainKeys := false, apart := false }
def VecTakesSaid : Prop := vecTakesRow.holds Try.pinned (OpenSpec.ofChange vecTakesSpec)

/-- ITS FALSE NEIGHBOUR: 'it returns false'. Refute it at one input. -/
def vecTakesWrong : ChangeSpec := { name := "vecTakes", fn := fun _ => fun
  | [d1, d2] => { results := [.lit (.bool false)], args := [d1, d2] }
  | _ => none }
def VecTakesWrongFalsely : Prop := vecTakesRow.holds Try.pinned (OpenSpec.ofChange vecTakesWrong)

/-- 'selkielaw09.LampBehind': WHATEVER THE INPUT: true; the input reads as it did. -/
def lampBehindSpec : ChangeSpec := { name := "lampBehind", fn := fun _ => fun
  | [d1, d2, d3] => { results := [.lit (.bool true)], args := [d1, d2, d3] }
  | _ => none }
def lampBehindRow : OpenClaim := { program := "ytfpaojkcmijfgaa", sum := "2a415d441c55999264c953417fd02f6c9d9a8ce9f1a18fec7eaeb0193bdeccf4", func := "selkie/selkielaw09.LampBehind", spec := "lampBehind", plainKeys := false, apart := false }
def LampBehindSaid : Prop := lampBehindRow.holds Try.pinned (OpenSpec.ofChange lampBehindSpec)

/-- ITS FALSE NEIGHBOUR: 'it returns false'. Refute it at one input. -/
def lampBehindWrong : ChangeSpec := { name := "lampBehind", fn := fun _ => fun
  | [d1, d2, d3] => { results := [.lit (.bool false)], args := [d1, d2, d3] }
  | _ => none }
def LampBehindWrongFalsely : Prop := lampBehindRow.holds Try.pinned (OpenSpec.ofChange lampBehindWrong)

/-- 'selkielaw06.VecOrder': WHATEVER THE INPUT: true; the input reads as it did. -/
def vecOrderSpec : ChangeSpec := { name := "vecOrder", fn := fun _ => fun
  | [d1, d2, d3] => { results := [.lit (.bool true)], args := [d1, d2, d3] }
  | _ => none }
def vecOrderRow : OpenClaim := { program := "ytfpaojkcmijfgaa", sum := "2a415d441c55999264c953417fd02f6c9d9a8ce9f1a18fec7eaeb0193bdeccf4", func := "selkie/selkielaw06.VecOrder", spec := "vecOrder", inPlace := ["internal/abi.NoEscape", "internal/bytealg.MakeNoZero"], plainKeys := false, apart := false }
def VecOrderSaid : Prop := vecOrderRow.holds Try.pinned (OpenSpec.ofChange vecOrderSpec)

/-- ITS FALSE NEIGHBOUR: 'it returns false'. Refute it at one input. -/
def vecOrderWrong : ChangeSpec := { name := "vecOrder", fn := fun _ => fun
  | [d1, d2, d3] => { results := [.lit (.bool false)], args := [d1, d2, d3] }
  | _ => none }
def VecOrderWrongFalsely : Prop := vecOrderRow.holds Try.pinned (OpenSpec.ofChange vecOrderWrong)

/-- 'selkielaw06.VecSteps': WHATEVER THE INPUT: true; the input reads as it did. -/
def vecStepsSpec : ChangeSpec := { name := "vecSteps", fn := fun _ => fun
  | [d] => { results := [.lit (.bool true)], args := [d] }
  | _ => none }
def vecStepsRow : OpenClaim := { program := "ytfpaojkcmijfgaa", sum := "2a415d441c55999264c953417fd02f6c9d9a8ce9f1a18fec7eaeb0193bdeccf4", func := "selkie/selkielaw06.VecSteps", spec := "vecSteps", inPlace := ["internal/abi.NoEscape", "internal/bytealg.MakeNoZero"], plainKeys := false, apart := false }
def VecStepsSaid : Prop := vecStepsRow.holds Try.pinned (OpenSpec.ofChange vecStepsSpec)

/-- ITS FALSE NEIGHBOUR: 'it returns false'. Refute it at one input. -/
def vecStepsWrong : ChangeSpec := { name := "vecSteps", fn := fun _ => fun
  | [d] => { results := [.lit (.bool false)], args := [d] }
  | _ => none }
def VecStepsWrongFalsely : Prop := vecStepsRow.holds Try.pinned (OpenSpec.ofChange vecStepsWrong)

/-- 'selkielaw23.BallotOrder': WHATEVER THE INPUT: true; the input reads as it did. -/
def ballotOrderSpec : ChangeSpec := { name := "ballotOrder", fn := fun _ => fun
  | [d1, d2, d3, d4] => { results := [.lit (.bool true)], args := [d1, d2, d3, d4] }
  | _ => none }
def ballotOrderRow : OpenClaim := { program := "ytfpaojkcmijfgaa", sum := "2a415d441c55999264c953417fd02f6c9d9a8ce9f1a18fec7eaeb0193bdeccf4", func := "selkie/selkielaw23.BallotOrder", spec := "ballotOrder", plainKeys := false, apart := false }
def BallotOrderSaid : Prop := ballotOrderRow.holds Try.pinned (OpenSpec.ofChange ballotOrderSpec)

/-- ITS FALSE NEIGHBOUR: 'it returns false'. Refute it at one input. -/
def ballotOrderWrong : ChangeSpec := { name := "ballotOrder", fn := fun _ => fun
  | [d1, d2, d3, d4] => { results := [.lit (.bool false)], args := [d1, d2, d3, d4] }
  | _ => none }
def BallotOrderWrongFalsely : Prop := ballotOrderRow.holds Try.pinned (OpenSpec.ofChange ballotOrderWrong)

/- THE SECOND FORM. 'bulk': how many values and letters a reading holds, each counted each time it is reached (what is shared counts as often as it is met; a slice's spare places count too). A statement '..UptoSaid' is the law's where the arguments, and the package variables that the reading takes, are together of bulk at most 1048576: NARROWER than '..Said'. Prove '..Said' where nothing that the law and all that it calls make is longer than what came in: it says more and counts as full. Else prove '..UptoSaid'. A law counts once. -/
mutual
def uptoBulk {H : Type} : DataW H → Nat
  | .lit (.string bytes) => bytes.length + 1
  | .lit _ => 1
  | .nil => 1
  | .ptr d => uptoBulk d + 1
  | .slice elems spare => uptoBulkAll elems + uptoBulkAll spare + 1
  | .agg parts => uptoBulkAll parts + 1
  | .iface _ d => uptoBulk d + 1
  | .map entries => uptoBulkEntries entries + 1
  | .held _ => 1
def uptoBulkAll {H : Type} : List (DataW H) → Nat
  | [] => 0
  | d :: r => uptoBulk d + uptoBulkAll r
def uptoBulkEntries {H : Type} : List (Lit × DataW H) → Nat
  | [] => 0
  | x :: r => uptoBulkEntry x + uptoBulkEntries r
def uptoBulkEntry {H : Type} : Lit × DataW H → Nat
  | (.string bytes, d) => bytes.length + uptoBulk d + 1
  | (_, d) => uptoBulk d + 1
 end
def uptoSmall : (H : Type) → List (DataW H) → Bool := fun _ ds => decide (uptoBulkAll ds ≤ 1048576)
def OpenSpec.upto (s : _root_.Go.ChangeSpec) : _root_.Go.OpenSpec := { _root_.Go.OpenSpec.ofChange s with cond := some uptoSmall }

/-- 'selkielaw11.PncAnyhow', WHERE WHAT IT READS IS OF BULK AT MOST 1048576: true; the input reads as it did. -/
def pncAnyhowUptoRow : OpenClaim := { program := "ytfpaojkcmijfgaa", sum := "2a415d441c55999264c953417fd02f6c9d9a8ce9f1a18fec7eaeb0193bdeccf4", func := "selkie/selkielaw11.PncAnyhow", spec := "pncAnyhow", plainKeys := false, apart := false, narrowed := true }
def PncAnyhowUptoSaid : Prop := pncAnyhowUptoRow.holds Try.pinned (OpenSpec.upto pncAnyhowSpec)

/-- 'selkielaw09.LampDoes', WHERE WHAT IT READS IS OF BULK AT MOST 1048576: true; the input reads as it did. -/
def lampDoesUptoRow : OpenClaim := { program := "ytfpaojkcmijfgaa", sum := "2a415d441c55999264c953417fd02f6c9d9a8ce9f1a18fec7eaeb0193bdeccf4", func := "selkie/selkielaw09.LampDoes", spec := "lampDoes", plainKeys := false, apart := false, narrowed := true }
def LampDoesUptoSaid : Prop := lampDoesUptoRow.holds Try.pinned (OpenSpec.upto lampDoesSpec)

/-- 'selkielaw10.LwwAnyhow', WHERE WHAT IT READS IS OF BULK AT MOST 1048576: true; the input reads as it did. -/
def lwwAnyhowUptoRow : OpenClaim := { program := "ytfpaojkcmijfgaa", sum := "2a415d441c55999264c953417fd02f6c9d9a8ce9f1a18fec7eaeb0193bdeccf4", func := "selkie/selkielaw10.LwwAnyhow", spec := "lwwAnyhow", plainKeys := false, apart := false, narrowed := true }
def LwwAnyhowUptoSaid : Prop := lwwAnyhowUptoRow.holds Try.pinned (OpenSpec.upto lwwAnyhowSpec)

/-- 'selkielaw10.LwwMerge', WHERE WHAT IT READS IS OF BULK AT MOST 1048576: true; the input reads as it did. -/
def lwwMergeUptoRow : OpenClaim := { program := "ytfpaojkcmijfgaa", sum := "2a415d441c55999264c953417fd02f6c9d9a8ce9f1a18fec7eaeb0193bdeccf4", func := "selkie/selkielaw10.LwwMerge", spec := "lwwMerge", plainKeys := false, apart := false, narrowed := true }
def LwwMergeUptoSaid : Prop := lwwMergeUptoRow.holds Try.pinned (OpenSpec.upto lwwMergeSpec)

/-- 'selkielaw06.VecTakes', WHERE WHAT IT READS IS OF BULK AT MOST 1048576: true; the input reads as it did. -/
def vecTakesUptoRow : OpenClaim := { program := "ytfpaojkcmijfgaa", sum := "2a415d441c55999264c953417fd02f6c9d9a8ce9f1a18fec7eaeb0193bdeccf4", func := "selkie/selkielaw06.VecTakes", spec := "vecTakes", plainKeys := false, apart := false, narrowed := true }
def VecTakesUptoSaid : Prop := vecTakesUptoRow.holds Try.pinned (OpenSpec.upto vecTakesSpec)

/-- 'selkielaw09.LampBehind', WHERE WHAT IT READS IS OF BULK AT MOST 1048576: true; the input reads as it did. -/
def lampBehindUptoRow : OpenClaim := { program := "ytfpaojkcmijfgaa", sum := "2a415d441c55999264c953417fd02f6c9d9a8ce9f1a18fec7eaeb0193bdeccf4", func := "selkie/selkielaw09.LampBehind", spec := "lampBehind", plainKeys := false, apart := false, narrowed := true }
def LampBehindUptoSaid : Prop := lampBehindUptoRow.holds Try.pinned (OpenSpec.upto lampBehindSpec)

/-- 'selkielaw06.VecOrder', WHERE WHAT IT READS IS OF BULK AT MOST 1048576: true; the input reads as it did. -/
def vecOrderUptoRow : OpenClaim := { program := "ytfpaojkcmijfgaa", sum := "2a415d441c55999264c953417fd02f6c9d9a8ce9f1a18fec7eaeb0193bdeccf4", func := "selkie/selkielaw06.VecOrder", spec := "vecOrder", inPlace := ["internal/abi.NoEscape", "internal/bytealg.MakeNoZero"], plainKeys := false, apart := false, narrowed := true }
def VecOrderUptoSaid : Prop := vecOrderUptoRow.holds Try.pinned (OpenSpec.upto vecOrderSpec)

/-- 'selkielaw06.VecSteps', WHERE WHAT IT READS IS OF BULK AT MOST 1048576: true; the input reads as it did. -/
def vecStepsUptoRow : OpenClaim := { program := "ytfpaojkcmijfgaa", sum := "2a415d441c55999264c953417fd02f6c9d9a8ce9f1a18fec7eaeb0193bdeccf4", func := "selkie/selkielaw06.VecSteps", spec := "vecSteps", inPlace := ["internal/abi.NoEscape", "internal/bytealg.MakeNoZero"], plainKeys := false, apart := false, narrowed := true }
def VecStepsUptoSaid : Prop := vecStepsUptoRow.holds Try.pinned (OpenSpec.upto vecStepsSpec)

/-- 'selkielaw23.BallotOrder', WHERE WHAT IT READS IS OF BULK AT MOST 1048576: true; the input reads as it did. -/
def ballotOrderUptoRow : OpenClaim := { program := "ytfpaojkcmijfgaa", sum := "2a415d441c55999264c953417fd02f6c9d9a8ce9f1a18fec7eaeb0193bdeccf4", func := "selkie/selkielaw23.BallotOrder", spec := "ballotOrder", plainKeys := false, apart := false, narrowed := true }
def BallotOrderUptoSaid : Prop := ballotOrderUptoRow.holds Try.pinned (OpenSpec.upto ballotOrderSpec)

end Rows
end Go.Proofs.Ytfpaojkcmijfgaa

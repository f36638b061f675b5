/-
  NARROWER THAN 'FOR EVERY INPUT', by the rows' own cells (each row's printed sentence says how): IdentBytes: laid · LampTells: laid · PncTells: laid · BallotTells: laid · LwwTells: laid · VecBytes: laid.
  DERIVED. THE GIVEN ROWS OF THIS SEAT. 6 by the template 'for every input the law returns true; each argument reads behind the call as it read before'; 0 by the template 'total and deterministic' (their statements: YtjckganigfblnaaDoorTotals.lean).
  GIVEN WITH THE SEED: the statements are not yours to turn. If you find one false, say at which input.
  Laid BY PROGRAM, IN A SANDBOX (cutbox-rows.mjs): the forced cells as the released guide's own fill.sh prints them over the translation 5c2671a148002659… (all of the seat's roots in one cut). By AI agents, Wed Nov 11 2026. No macro, syntax, notation, axiom, sorry.
-/
import Derived.Test.YtjckganigfblnaaDoorChecked
import GoSem.Claim
import GoSem.ClaimJoined
import GoSem.ClaimMapViews
import Derived.JoinedTies
import Derived.KernelRfl
namespace Go.Proofs.YtjckganigfblnaaDoor
/- THE CELL 'sum', in the pinned program and in every row, IS THE sha256 OF THE DUMP (.gsa) THAT YtjckganigfblnaaDoorProg.lean LOADS. Nothing in Lean hashes anything: it is a label: what it is worth is what the hold of that sum in a sandbox is worth. -/
noncomputable def Tryd.pinned : Pinned := { name := "ytjckganigfblnaadoor", sum := "5c2671a148002659a275b680ed762129141067ef917814903f29ec47cd71ce27", checked := Tryd.checked }
namespace Rows
def none {H : Type} : Left H := { results := [], args := [] }

/- WHAT THE LISTED PACKAGE-LEVEL VARIABLES READ AS WHEN THE CALL BEGINS. Each datum BY PROGRAM (the guide's laid-datum.mjs) off the statement by which the dump's own 'gosem.cut.vars' lays the variable. In a bare row this is a premise. The card (YtjckganigfblnaaDoorCards.lean) ties it to the program's text. -/
def laid_errors_errorType {H : Type} : DataW H := .iface "internal/reflectlite.rtype" (.agg [.ptr (.lit (.string [101, 114, 114, 111, 114]))])

/-- 'selkielaw05.IdentBytes': WHATEVER THE INPUT: true; the input reads as it did. -/
def identBytesSpec : ChangeSpec := { name := "identBytes", fn := fun _ => fun
  | [d1, d2] => { results := [.lit (.bool true)], args := [d1, d2] }
  | _ => none }
def identBytesRow : OpenClaim := { program := "ytjckganigfblnaadoor", sum := "5c2671a148002659a275b680ed762129141067ef917814903f29ec47cd71ce27", func := "selkie/selkielaw05.IdentBytes", spec := "identBytes", inPlace := ["internal/reflectlite.ValueOf", "(internal/reflectlite.Value).Type", "(internal/reflectlite.Value).IsNil", "internal/reflectlite.TypeOf", "(internal/reflectlite.Value).Elem", "(internal/reflectlite.Value).Set"], unfollowed := true, recurses := true, named := ["errors.errorType"], apart := false, laid := [("errors.errorType", laid_errors_errorType)] }
def IdentBytesSaid : Prop := identBytesRow.holds Tryd.pinned (OpenSpec.ofChange identBytesSpec)

/-- ITS FALSE NEIGHBOUR: 'it returns false'. Refute it at one input. -/
def identBytesWrong : ChangeSpec := { name := "identBytes", fn := fun _ => fun
  | [d1, d2] => { results := [.lit (.bool false)], args := [d1, d2] }
  | _ => none }
def IdentBytesWrongFalsely : Prop := identBytesRow.holds Tryd.pinned (OpenSpec.ofChange identBytesWrong)

/-- 'selkielaw09.LampTells': WHATEVER THE INPUT: true; the input reads as it did. -/
def lampTellsSpec : ChangeSpec := { name := "lampTells", fn := fun _ => fun
  | [d1, d2, d3] => { results := [.lit (.bool true)], args := [d1, d2, d3] }
  | _ => none }
def lampTellsRow : OpenClaim := { program := "ytjckganigfblnaadoor", sum := "5c2671a148002659a275b680ed762129141067ef917814903f29ec47cd71ce27", func := "selkie/selkielaw09.LampTells", spec := "lampTells", inPlace := ["internal/reflectlite.ValueOf", "(internal/reflectlite.Value).Type", "(internal/reflectlite.Value).IsNil", "internal/reflectlite.TypeOf", "(internal/reflectlite.Value).Elem", "(internal/reflectlite.Value).Set"], unfollowed := true, recurses := true, named := ["errors.errorType"], apart := false, laid := [("errors.errorType", laid_errors_errorType)] }
def LampTellsSaid : Prop := lampTellsRow.holds Tryd.pinned (OpenSpec.ofChange lampTellsSpec)

/-- ITS FALSE NEIGHBOUR: 'it returns false'. Refute it at one input. -/
def lampTellsWrong : ChangeSpec := { name := "lampTells", fn := fun _ => fun
  | [d1, d2, d3] => { results := [.lit (.bool false)], args := [d1, d2, d3] }
  | _ => none }
def LampTellsWrongFalsely : Prop := lampTellsRow.holds Tryd.pinned (OpenSpec.ofChange lampTellsWrong)

/-- 'selkielaw11.PncTells': WHATEVER THE INPUT: true; the input reads as it did. -/
def pncTellsSpec : ChangeSpec := { name := "pncTells", fn := fun _ => fun
  | [d1, d2, d3] => { results := [.lit (.bool true)], args := [d1, d2, d3] }
  | _ => none }
def pncTellsRow : OpenClaim := { program := "ytjckganigfblnaadoor", sum := "5c2671a148002659a275b680ed762129141067ef917814903f29ec47cd71ce27", func := "selkie/selkielaw11.PncTells", spec := "pncTells", inPlace := ["internal/reflectlite.ValueOf", "(internal/reflectlite.Value).Type", "(internal/reflectlite.Value).IsNil", "internal/reflectlite.TypeOf", "(internal/reflectlite.Value).Elem", "(internal/reflectlite.Value).Set"], unfollowed := true, recurses := true, named := ["errors.errorType"], apart := false, laid := [("errors.errorType", laid_errors_errorType)] }
def PncTellsSaid : Prop := pncTellsRow.holds Tryd.pinned (OpenSpec.ofChange pncTellsSpec)

/-- ITS FALSE NEIGHBOUR: 'it returns false'. Refute it at one input. -/
def pncTellsWrong : ChangeSpec := { name := "pncTells", fn := fun _ => fun
  | [d1, d2, d3] => { results := [.lit (.bool false)], args := [d1, d2, d3] }
  | _ => none }
def PncTellsWrongFalsely : Prop := pncTellsRow.holds Tryd.pinned (OpenSpec.ofChange pncTellsWrong)

/-- 'selkielaw23.BallotTells': WHATEVER THE INPUT: true; the input reads as it did. -/
def ballotTellsSpec : ChangeSpec := { name := "ballotTells", fn := fun _ => fun
  | [d1, d2, d3, d4] => { results := [.lit (.bool true)], args := [d1, d2, d3, d4] }
  | _ => none }
def ballotTellsRow : OpenClaim := { program := "ytjckganigfblnaadoor", sum := "5c2671a148002659a275b680ed762129141067ef917814903f29ec47cd71ce27", func := "selkie/selkielaw23.BallotTells", spec := "ballotTells", inPlace := ["internal/reflectlite.ValueOf", "(internal/reflectlite.Value).Type", "(internal/reflectlite.Value).IsNil", "internal/reflectlite.TypeOf", "(internal/reflectlite.Value).Elem", "(internal/reflectlite.Value).Set"], unfollowed := true, recurses := true, named := ["errors.errorType"], apart := false, laid := [("errors.errorType", laid_errors_errorType)] }
def BallotTellsSaid : Prop := ballotTellsRow.holds Tryd.pinned (OpenSpec.ofChange ballotTellsSpec)

/-- ITS FALSE NEIGHBOUR: 'it returns false'. Refute it at one input. -/
def ballotTellsWrong : ChangeSpec := { name := "ballotTells", fn := fun _ => fun
  | [d1, d2, d3, d4] => { results := [.lit (.bool false)], args := [d1, d2, d3, d4] }
  | _ => none }
def BallotTellsWrongFalsely : Prop := ballotTellsRow.holds Tryd.pinned (OpenSpec.ofChange ballotTellsWrong)

/-- 'selkielaw10.LwwTells': WHATEVER THE INPUT: true; the input reads as it did. -/
def lwwTellsSpec : ChangeSpec := { name := "lwwTells", fn := fun _ => fun
  | [d1, d2, d3] => { results := [.lit (.bool true)], args := [d1, d2, d3] }
  | _ => none }
def lwwTellsRow : OpenClaim := { program := "ytjckganigfblnaadoor", sum := "5c2671a148002659a275b680ed762129141067ef917814903f29ec47cd71ce27", func := "selkie/selkielaw10.LwwTells", spec := "lwwTells", inPlace := ["internal/reflectlite.ValueOf", "(internal/reflectlite.Value).Type", "(internal/reflectlite.Value).IsNil", "internal/reflectlite.TypeOf", "(internal/reflectlite.Value).Elem", "(internal/reflectlite.Value).Set"], unfollowed := true, recurses := true, named := ["errors.errorType"], apart := false, laid := [("errors.errorType", laid_errors_errorType)] }
def LwwTellsSaid : Prop := lwwTellsRow.holds Tryd.pinned (OpenSpec.ofChange lwwTellsSpec)

/-- ITS FALSE NEIGHBOUR: 'it returns false'. Refute it at one input. -/
def lwwTellsWrong : ChangeSpec := { name := "lwwTells", fn := fun _ => fun
  | [d1, d2, d3] => { results := [.lit (.bool false)], args := [d1, d2, d3] }
  | _ => none }
def LwwTellsWrongFalsely : Prop := lwwTellsRow.holds Tryd.pinned (OpenSpec.ofChange lwwTellsWrong)

/-- 'selkielaw06.VecBytes': WHATEVER THE INPUT: true; the input reads as it did. -/
def vecBytesSpec : ChangeSpec := { name := "vecBytes", fn := fun _ => fun
  | [d1, d2] => { results := [.lit (.bool true)], args := [d1, d2] }
  | _ => none }
def vecBytesRow : OpenClaim := { program := "ytjckganigfblnaadoor", sum := "5c2671a148002659a275b680ed762129141067ef917814903f29ec47cd71ce27", func := "selkie/selkielaw06.VecBytes", spec := "vecBytes", inPlace := ["internal/abi.NoEscape", "internal/bytealg.MakeNoZero", "internal/reflectlite.ValueOf", "(internal/reflectlite.Value).Type", "(internal/reflectlite.Value).IsNil", "internal/reflectlite.TypeOf", "(internal/reflectlite.Value).Elem", "(internal/reflectlite.Value).Set"], unfollowed := true, recurses := true, named := ["errors.errorType"], apart := false, laid := [("errors.errorType", laid_errors_errorType)] }
def VecBytesSaid : Prop := vecBytesRow.holds Tryd.pinned (OpenSpec.ofChange vecBytesSpec)

/-- ITS FALSE NEIGHBOUR: 'it returns false'. Refute it at one input. -/
def vecBytesWrong : ChangeSpec := { name := "vecBytes", fn := fun _ => fun
  | [d1, d2] => { results := [.lit (.bool false)], args := [d1, d2] }
  | _ => none }
def VecBytesWrongFalsely : Prop := vecBytesRow.holds Tryd.pinned (OpenSpec.ofChange vecBytesWrong)

/- THE SECOND FORM. 'bulk': how many values and letters a reading holds, each counted each time it is reached (what is shared counts as often as it is met; a slice's spare places count too). A statement '..UptoSaid' is the law's where the arguments, and the package variables that the reading takes, are together of bulk at most 1048576: NARROWER than '..Said'. Prove '..Said' where nothing that the law and all that it calls make is longer than what came in: it says more and counts as full. Else prove '..UptoSaid'. A law counts once. -/
mutual
def uptoBulk {H : Type} : DataW H → Nat
  | .lit (.string bytes) => bytes.length + 1
  | .lit _ => 1
  | .nil => 1
  | .ptr d => uptoBulk d + 1
  | .slice elems spare => uptoBulkAll elems + uptoBulkAll spare + 1
  | .agg parts => uptoBulkAll parts + 1
  | .iface _ d => uptoBulk d + 1
  | .map entries => uptoBulkEntries entries + 1
  | .held _ => 1
def uptoBulkAll {H : Type} : List (DataW H) → Nat
  | [] => 0
  | d :: r => uptoBulk d + uptoBulkAll r
def uptoBulkEntries {H : Type} : List (Lit × DataW H) → Nat
  | [] => 0
  | x :: r => uptoBulkEntry x + uptoBulkEntries r
def uptoBulkEntry {H : Type} : Lit × DataW H → Nat
  | (.string bytes, d) => bytes.length + uptoBulk d + 1
  | (_, d) => uptoBulk d + 1
 end
def uptoSmall : (H : Type) → List (DataW H) → Bool := fun _ ds => decide (uptoBulkAll ds ≤ 1048576)
def OpenSpec.upto (s : _root_.Go.ChangeSpec) : _root_.Go.OpenSpec := { _root_.Go.OpenSpec.ofChange s with cond := some uptoSmall }

/-- 'selkielaw05.IdentBytes', WHERE WHAT IT READS IS OF BULK AT MOST 1048576: true; the input reads as it did. -/
def identBytesUptoRow : OpenClaim := { program := "ytjckganigfblnaadoor", sum := "5c2671a148002659a275b680ed762129141067ef917814903f29ec47cd71ce27", func := "selkie/selkielaw05.IdentBytes", spec := "identBytes", inPlace := ["internal/reflectlite.ValueOf", "(internal/reflectlite.Value).Type", "(internal/reflectlite.Value).IsNil", "internal/reflectlite.TypeOf", "(internal/reflectlite.Value).Elem", "(internal/reflectlite.Value).Set"], unfollowed := true, recurses := true, named := ["errors.errorType"], apart := false, laid := [("errors.errorType", laid_errors_errorType)], narrowed := true }
def IdentBytesUptoSaid : Prop := identBytesUptoRow.holds Tryd.pinned (OpenSpec.upto identBytesSpec)

/-- 'selkielaw09.LampTells', WHERE WHAT IT READS IS OF BULK AT MOST 1048576: true; the input reads as it did. -/
def lampTellsUptoRow : OpenClaim := { program := "ytjckganigfblnaadoor", sum := "5c2671a148002659a275b680ed762129141067ef917814903f29ec47cd71ce27", func := "selkie/selkielaw09.LampTells", spec := "lampTells", inPlace := ["internal/reflectlite.ValueOf", "(internal/reflectlite.Value).Type", "(internal/reflectlite.Value).IsNil", "internal/reflectlite.TypeOf", "(internal/reflectlite.Value).Elem", "(internal/reflectlite.Value).Set"], unfollowed := true, recurses := true, named := ["errors.errorType"], apart := false, laid := [("errors.errorType", laid_errors_errorType)], narrowed := true }
def LampTellsUptoSaid : Prop := lampTellsUptoRow.holds Tryd.pinned (OpenSpec.upto lampTellsSpec)

/-- 'selkielaw11.PncTells', WHERE WHAT IT READS IS OF BULK AT MOST 1048576: true; the input reads as it did. -/
def pncTellsUptoRow : OpenClaim := { program := "ytjckganigfblnaadoor", sum := "5c2671a148002659a275b680ed762129141067ef917814903f29ec47cd71ce27", func := "selkie/selkielaw11.PncTells", spec := "pncTells", inPlace := ["internal/reflectlite.ValueOf", "(internal/reflectlite.Value).Type", "(internal/reflectlite.Value).IsNil", "internal/reflectlite.TypeOf", "(internal/reflectlite.Value).Elem", "(internal/reflectlite.Value).Set"], unfollowed := true, recurses := true, named := ["errors.errorType"], apart := false, laid := [("errors.errorType", laid_errors_errorType)], narrowed := true }
def PncTellsUptoSaid : Prop := pncTellsUptoRow.holds Tryd.pinned (OpenSpec.upto pncTellsSpec)

/-- 'selkielaw23.BallotTells', WHERE WHAT IT READS IS OF BULK AT MOST 1048576: true; the input reads as it did. -/
def ballotTellsUptoRow : OpenClaim := { program := "ytjckganigfblnaadoor", sum := "5c2671a148002659a275b680ed762129141067ef917814903f29ec47cd71ce27", func := "selkie/selkielaw23.BallotTells", spec := "ballotTells", inPlace := ["internal/reflectlite.ValueOf", "(internal/reflectlite.Value).Type", "(internal/reflectlite.Value).IsNil", "internal/reflectlite.TypeOf", "(internal/reflectlite.Value).Elem", "(internal/reflectlite.Value).Set"], unfollowed := true, recurses := true, named := ["errors.errorType"], apart := false, laid := [("errors.errorType", laid_errors_errorType)], narrowed := true }
def BallotTellsUptoSaid : Prop := ballotTellsUptoRow.holds Tryd.pinned (OpenSpec.upto ballotTellsSpec)

/-- 'selkielaw10.LwwTells', WHERE WHAT IT READS IS OF BULK AT MOST 1048576: true; the input reads as it did. -/
def lwwTellsUptoRow : OpenClaim := { program := "ytjckganigfblnaadoor", sum := "5c2671a148002659a275b680ed762129141067ef917814903f29ec47cd71ce27", func := "selkie/selkielaw10.LwwTells", spec := "lwwTells", inPlace := ["internal/reflectlite.ValueOf", "(internal/reflectlite.Value).Type", "(internal/reflectlite.Value).IsNil", "internal/reflectlite.TypeOf", "(internal/reflectlite.Value).Elem", "(internal/reflectlite.Value).Set"], unfollowed := true, recurses := true, named := ["errors.errorType"], apart := false, laid := [("errors.errorType", laid_errors_errorType)], narrowed := true }
def LwwTellsUptoSaid : Prop := lwwTellsUptoRow.holds Tryd.pinned (OpenSpec.upto lwwTellsSpec)

/-- 'selkielaw06.VecBytes', WHERE WHAT IT READS IS OF BULK AT MOST 1048576: true; the input reads as it did. -/
def vecBytesUptoRow : OpenClaim := { program := "ytjckganigfblnaadoor", sum := "5c2671a148002659a275b680ed762129141067ef917814903f29ec47cd71ce27", func := "selkie/selkielaw06.VecBytes", spec := "vecBytes", inPlace := ["internal/abi.NoEscape", "internal/bytealg.MakeNoZero", "internal/reflectlite.ValueOf", "(internal/reflectlite.Value).Type", "(internal/reflectlite.Value).IsNil", "internal/reflectlite.TypeOf", "(internal/reflectlite.Value).Elem", "(internal/reflectlite.Value).Set"], unfollowed := true, recurses := true, named := ["errors.errorType"], apart := false, laid := [("errors.errorType", laid_errors_errorType)], narrowed := true }
def VecBytesUptoSaid : Prop := vecBytesUptoRow.holds Tryd.pinned (OpenSpec.upto vecBytesSpec)

end Rows
end Go.Proofs.YtjckganigfblnaaDoor

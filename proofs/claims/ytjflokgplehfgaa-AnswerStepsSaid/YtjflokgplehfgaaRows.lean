/-
  No cell of these rows narrows 'for every input' (looked for: loops, veiled, ifaces, maps, wideKeys, modest, calm, conditions, laid).
  DERIVED. THE GIVEN ROWS OF THIS SEAT. 6 by the template 'for every input the law returns true; each argument reads behind the call as it read before'; 0 by the template 'total and deterministic' (their statements: YtjflokgplehfgaaTotals.lean).
  GIVEN WITH THE SEED: the statements are not yours to turn. If you find one false, say at which input.
  Laid BY PROGRAM, IN A SANDBOX (cutbox-rows.mjs): the forced cells as the released guide's own fill.sh prints them over the translation 0d10be336aa4bab3… (all of the seat's roots in one cut). By AI agents, Wed Nov 11 2026. No macro, syntax, notation, axiom, sorry.
-/
import Derived.Test.YtjflokgplehfgaaChecked
import GoSem.Claim
import GoSem.ClaimJoined
import GoSem.ClaimMapViews
import Derived.JoinedTies
import Derived.KernelRfl
namespace Go.Proofs.Ytjflokgplehfgaa
/- THE CELL 'sum', in the pinned program and in every row, IS THE sha256 OF THE DUMP (.gsa) THAT YtjflokgplehfgaaProg.lean LOADS. Nothing in Lean hashes anything: it is a label: what it is worth is what the hold of that sum in a sandbox is worth. -/
noncomputable def Try.pinned : Pinned := { name := "ytjflokgplehfgaa", sum := "0d10be336aa4bab3c893a7f4e165c91b06217e7e1a9d67f684fe5adbfc09721e", checked := Try.checked }
namespace Rows
def none {H : Type} : Left H := { results := [], args := [] }

/-- 'escrowlaw17.AnswerRuns': WHATEVER THE INPUT: true; the input reads as it did. -/
def answerRunsSpec : ChangeSpec := { name := "answerRuns", fn := fun _ => fun
  | [d1, d2] => { results := [.lit (.bool true)], args := [d1, d2] }
  | _ => none }
def answerRunsRow : OpenClaim := { program := "ytjflokgplehfgaa", sum := "0d10be336aa4bab3c893a7f4e165c91b06217e7e1a9d67f684fe5adbfc09721e", func := "escrow/escrowlaw17.AnswerRuns", spec := "answerRuns", apart := false }
def AnswerRunsSaid : Prop := answerRunsRow.holds Try.pinned (OpenSpec.ofChange answerRunsSpec)

/-- ITS FALSE NEIGHBOUR: 'it returns false'. Refute it at one input. -/
def answerRunsWrong : ChangeSpec := { name := "answerRuns", fn := fun _ => fun
  | [d1, d2] => { results := [.lit (.bool false)], args := [d1, d2] }
  | _ => none }
def AnswerRunsWrongFalsely : Prop := answerRunsRow.holds Try.pinned (OpenSpec.ofChange answerRunsWrong)

/-- 'escrowlaw17.AnswerSafe': WHATEVER THE INPUT: true; the input reads as it did. -/
def answerSafeSpec : ChangeSpec := { name := "answerSafe", fn := fun _ => fun
  | [d1, d2] => { results := [.lit (.bool true)], args := [d1, d2] }
  | _ => none }
def answerSafeRow : OpenClaim := { program := "ytjflokgplehfgaa", sum := "0d10be336aa4bab3c893a7f4e165c91b06217e7e1a9d67f684fe5adbfc09721e", func := "escrow/escrowlaw17.AnswerSafe", spec := "answerSafe", apart := false }
def AnswerSafeSaid : Prop := answerSafeRow.holds Try.pinned (OpenSpec.ofChange answerSafeSpec)

/-- ITS FALSE NEIGHBOUR: 'it returns false'. Refute it at one input. -/
def answerSafeWrong : ChangeSpec := { name := "answerSafe", fn := fun _ => fun
  | [d1, d2] => { results := [.lit (.bool false)], args := [d1, d2] }
  | _ => none }
def AnswerSafeWrongFalsely : Prop := answerSafeRow.holds Try.pinned (OpenSpec.ofChange answerSafeWrong)

/-- 'escrowlaw17.AnswerTwice': WHATEVER THE INPUT: true; the input reads as it did. -/
def answerTwiceSpec : ChangeSpec := { name := "answerTwice", fn := fun _ => fun
  | [d1, d2] => { results := [.lit (.bool true)], args := [d1, d2] }
  | _ => none }
def answerTwiceRow : OpenClaim := { program := "ytjflokgplehfgaa", sum := "0d10be336aa4bab3c893a7f4e165c91b06217e7e1a9d67f684fe5adbfc09721e", func := "escrow/escrowlaw17.AnswerTwice", spec := "answerTwice", apart := false }
def AnswerTwiceSaid : Prop := answerTwiceRow.holds Try.pinned (OpenSpec.ofChange answerTwiceSpec)

/-- ITS FALSE NEIGHBOUR: 'it returns false'. Refute it at one input. -/
def answerTwiceWrong : ChangeSpec := { name := "answerTwice", fn := fun _ => fun
  | [d1, d2] => { results := [.lit (.bool false)], args := [d1, d2] }
  | _ => none }
def AnswerTwiceWrongFalsely : Prop := answerTwiceRow.holds Try.pinned (OpenSpec.ofChange answerTwiceWrong)

/-- 'escrowlaw17.AnswerApart': WHATEVER THE INPUT: true; the input reads as it did. -/
def answerApartSpec : ChangeSpec := { name := "answerApart", fn := fun _ => fun
  | [d1, d2] => { results := [.lit (.bool true)], args := [d1, d2] }
  | _ => none }
def answerApartRow : OpenClaim := { program := "ytjflokgplehfgaa", sum := "0d10be336aa4bab3c893a7f4e165c91b06217e7e1a9d67f684fe5adbfc09721e", func := "escrow/escrowlaw17.AnswerApart", spec := "answerApart", apart := false }
def AnswerApartSaid : Prop := answerApartRow.holds Try.pinned (OpenSpec.ofChange answerApartSpec)

/-- ITS FALSE NEIGHBOUR: 'it returns false'. Refute it at one input. -/
def answerApartWrong : ChangeSpec := { name := "answerApart", fn := fun _ => fun
  | [d1, d2] => { results := [.lit (.bool false)], args := [d1, d2] }
  | _ => none }
def AnswerApartWrongFalsely : Prop := answerApartRow.holds Try.pinned (OpenSpec.ofChange answerApartWrong)

/-- 'escrowlaw17.AnswerLong': WHATEVER THE INPUT: true; the input reads as it did. -/
def answerLongSpec : ChangeSpec := { name := "answerLong", fn := fun _ => fun
  | [d1, d2] => { results := [.lit (.bool true)], args := [d1, d2] }
  | _ => none }
def answerLongRow : OpenClaim := { program := "ytjflokgplehfgaa", sum := "0d10be336aa4bab3c893a7f4e165c91b06217e7e1a9d67f684fe5adbfc09721e", func := "escrow/escrowlaw17.AnswerLong", spec := "answerLong", apart := false }
def AnswerLongSaid : Prop := answerLongRow.holds Try.pinned (OpenSpec.ofChange answerLongSpec)

/-- ITS FALSE NEIGHBOUR: 'it returns false'. Refute it at one input. -/
def answerLongWrong : ChangeSpec := { name := "answerLong", fn := fun _ => fun
  | [d1, d2] => { results := [.lit (.bool false)], args := [d1, d2] }
  | _ => none }
def AnswerLongWrongFalsely : Prop := answerLongRow.holds Try.pinned (OpenSpec.ofChange answerLongWrong)

/-- 'escrowlaw17.AnswerSteps': WHATEVER THE INPUT: true; the input reads as it did. -/
def answerStepsSpec : ChangeSpec := { name := "answerSteps", fn := fun _ => fun
  | [d1, d2] => { results := [.lit (.bool true)], args := [d1, d2] }
  | _ => none }
def answerStepsRow : OpenClaim := { program := "ytjflokgplehfgaa", sum := "0d10be336aa4bab3c893a7f4e165c91b06217e7e1a9d67f684fe5adbfc09721e", func := "escrow/escrowlaw17.AnswerSteps", spec := "answerSteps", apart := false }
def AnswerStepsSaid : Prop := answerStepsRow.holds Try.pinned (OpenSpec.ofChange answerStepsSpec)

/-- ITS FALSE NEIGHBOUR: 'it returns false'. Refute it at one input. -/
def answerStepsWrong : ChangeSpec := { name := "answerSteps", fn := fun _ => fun
  | [d1, d2] => { results := [.lit (.bool false)], args := [d1, d2] }
  | _ => none }
def AnswerStepsWrongFalsely : Prop := answerStepsRow.holds Try.pinned (OpenSpec.ofChange answerStepsWrong)

/- THE SECOND FORM. 'bulk': how many values and letters a reading holds, each counted each time it is reached (what is shared counts as often as it is met; a slice's spare places count too). A statement '..UptoSaid' is the law's where the arguments, and the package variables that the reading takes, are together of bulk at most 1048576: NARROWER than '..Said'. Prove '..Said' where nothing that the law and all that it calls make is longer than what came in: it says more and counts as full. Else prove '..UptoSaid'. A law counts once. -/
mutual
def uptoBulk {H : Type} : DataW H → Nat
  | .lit (.string bytes) => bytes.length + 1
  | .lit _ => 1
  | .nil => 1
  | .ptr d => uptoBulk d + 1
  | .slice elems spare => uptoBulkAll elems + uptoBulkAll spare + 1
  | .agg parts => uptoBulkAll parts + 1
  | .iface _ d => uptoBulk d + 1
  | .map entries => uptoBulkEntries entries + 1
  | .held _ => 1
def uptoBulkAll {H : Type} : List (DataW H) → Nat
  | [] => 0
  | d :: r => uptoBulk d + uptoBulkAll r
def uptoBulkEntries {H : Type} : List (Lit × DataW H) → Nat
  | [] => 0
  | x :: r => uptoBulkEntry x + uptoBulkEntries r
def uptoBulkEntry {H : Type} : Lit × DataW H → Nat
  | (.string bytes, d) => bytes.length + uptoBulk d + 1
  | (_, d) => uptoBulk d + 1
 end
def uptoSmall : (H : Type) → List (DataW H) → Bool := fun _ ds => decide (uptoBulkAll ds ≤ 1048576)
def OpenSpec.upto (s : _root_.Go.ChangeSpec) : _root_.Go.OpenSpec := { _root_.Go.OpenSpec.ofChange s with cond := some uptoSmall }

/-- 'escrowlaw17.AnswerRuns', WHERE WHAT IT READS IS OF BULK AT MOST 1048576: true; the input reads as it did. -/
def answerRunsUptoRow : OpenClaim := { program := "ytjflokgplehfgaa", sum := "0d10be336aa4bab3c893a7f4e165c91b06217e7e1a9d67f684fe5adbfc09721e", func := "escrow/escrowlaw17.AnswerRuns", spec := "answerRuns", apart := false, narrowed := true }
def AnswerRunsUptoSaid : Prop := answerRunsUptoRow.holds Try.pinned (OpenSpec.upto answerRunsSpec)

/-- 'escrowlaw17.AnswerSafe', WHERE WHAT IT READS IS OF BULK AT MOST 1048576: true; the input reads as it did. -/
def answerSafeUptoRow : OpenClaim := { program := "ytjflokgplehfgaa", sum := "0d10be336aa4bab3c893a7f4e165c91b06217e7e1a9d67f684fe5adbfc09721e", func := "escrow/escrowlaw17.AnswerSafe", spec := "answerSafe", apart := false, narrowed := true }
def AnswerSafeUptoSaid : Prop := answerSafeUptoRow.holds Try.pinned (OpenSpec.upto answerSafeSpec)

/-- 'escrowlaw17.AnswerTwice', WHERE WHAT IT READS IS OF BULK AT MOST 1048576: true; the input reads as it did. -/
def answerTwiceUptoRow : OpenClaim := { program := "ytjflokgplehfgaa", sum := "0d10be336aa4bab3c893a7f4e165c91b06217e7e1a9d67f684fe5adbfc09721e", func := "escrow/escrowlaw17.AnswerTwice", spec := "answerTwice", apart := false, narrowed := true }
def AnswerTwiceUptoSaid : Prop := answerTwiceUptoRow.holds Try.pinned (OpenSpec.upto answerTwiceSpec)

/-- 'escrowlaw17.AnswerApart', WHERE WHAT IT READS IS OF BULK AT MOST 1048576: true; the input reads as it did. -/
def answerApartUptoRow : OpenClaim := { program := "ytjflokgplehfgaa", sum := "0d10be336aa4bab3c893a7f4e165c91b06217e7e1a9d67f684fe5adbfc09721e", func := "escrow/escrowlaw17.AnswerApart", spec := "answerApart", apart := false, narrowed := true }
def AnswerApartUptoSaid : Prop := answerApartUptoRow.holds Try.pinned (OpenSpec.upto answerApartSpec)

/-- 'escrowlaw17.AnswerLong', WHERE WHAT IT READS IS OF BULK AT MOST 1048576: true; the input reads as it did. -/
def answerLongUptoRow : OpenClaim := { program := "ytjflokgplehfgaa", sum := "0d10be336aa4bab3c893a7f4e165c91b06217e7e1a9d67f684fe5adbfc09721e", func := "escrow/escrowlaw17.AnswerLong", spec := "answerLong", apart := false, narrowed := true }
def AnswerLongUptoSaid : Prop := answerLongUptoRow.holds Try.pinned (OpenSpec.upto answerLongSpec)

/-- 'escrowlaw17.AnswerSteps', WHERE WHAT IT READS IS OF BULK AT MOST 1048576: true; the input reads as it did. -/
def answerStepsUptoRow : OpenClaim := { program := "ytjflokgplehfgaa", sum := "0d10be336aa4bab3c893a7f4e165c91b06217e7e1a9d67f684fe5adbfc09721e", func := "escrow/escrowlaw17.AnswerSteps", spec := "answerSteps", apart := false, narrowed := true }
def AnswerStepsUptoSaid : Prop := answerStepsUptoRow.holds Try.pinned (OpenSpec.upto answerStepsSpec)

end Rows
end Go.Proofs.Ytjflokgplehfgaa

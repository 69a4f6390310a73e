/-
  No cell of these rows narrows 'for every input' (looked for: loops, veiled, ifaces, maps, wideKeys, modest, calm, conditions, laid).
  DERIVED. THE GIVEN ROWS OF THIS SEAT. 5 by the template 'for every input the law returns true; each argument reads behind the call as it read before'; 0 by the template 'total and deterministic' (their statements: YtjmkoojojbfgpaaTotals.lean).
  GIVEN WITH THE SEED: the statements are not yours to turn. If you find one false, say at which input.
  Laid BY PROGRAM, IN A SANDBOX (cutbox-rows.mjs): the forced cells as the released guide's own fill.sh prints them over the translation 6ca2ec0c2fe8cb33… (all of the seat's roots in one cut). By AI agents, Wed Nov 11 2026. No macro, syntax, notation, axiom, sorry.
-/
import Derived.Test.YtjmkoojojbfgpaaChecked
import GoSem.Claim
import GoSem.ClaimJoined
import GoSem.ClaimMapViews
import Derived.JoinedTies
import Derived.KernelRfl
namespace Go.Proofs.Ytjmkoojojbfgpaa
/- THE CELL 'sum', in the pinned program and in every row, IS THE sha256 OF THE DUMP (.gsa) THAT YtjmkoojojbfgpaaProg.lean LOADS. Nothing in Lean hashes anything: it is a label: what it is worth is what the hold of that sum in a sandbox is worth. -/
noncomputable def Try.pinned : Pinned := { name := "ytjmkoojojbfgpaa", sum := "6ca2ec0c2fe8cb331107765f327bb510c35b323eac1932184a7a1192ecbc8184", checked := Try.checked }
namespace Rows
def none {H : Type} : Left H := { results := [], args := [] }

/-- 'escrowlaw18.VerdictAlone': WHATEVER THE INPUT: true; the input reads as it did. -/
def verdictAloneSpec : ChangeSpec := { name := "verdictAlone", fn := fun _ => fun
  | [d1, d2] => { results := [.lit (.bool true)], args := [d1, d2] }
  | _ => none }
def verdictAloneRow : OpenClaim := { program := "ytjmkoojojbfgpaa", sum := "6ca2ec0c2fe8cb331107765f327bb510c35b323eac1932184a7a1192ecbc8184", func := "escrow/escrowlaw18.VerdictAlone", spec := "verdictAlone", apart := false }
def VerdictAloneSaid : Prop := verdictAloneRow.holds Try.pinned (OpenSpec.ofChange verdictAloneSpec)

/-- ITS FALSE NEIGHBOUR: 'it returns false'. Refute it at one input. -/
def verdictAloneWrong : ChangeSpec := { name := "verdictAlone", fn := fun _ => fun
  | [d1, d2] => { results := [.lit (.bool false)], args := [d1, d2] }
  | _ => none }
def VerdictAloneWrongFalsely : Prop := verdictAloneRow.holds Try.pinned (OpenSpec.ofChange verdictAloneWrong)

/-- 'escrowlaw18.VerdictOnce': WHATEVER THE INPUT: true; the input reads as it did. -/
def verdictOnceSpec : ChangeSpec := { name := "verdictOnce", fn := fun _ => fun
  | [d1, d2] => { results := [.lit (.bool true)], args := [d1, d2] }
  | _ => none }
def verdictOnceRow : OpenClaim := { program := "ytjmkoojojbfgpaa", sum := "6ca2ec0c2fe8cb331107765f327bb510c35b323eac1932184a7a1192ecbc8184", func := "escrow/escrowlaw18.VerdictOnce", spec := "verdictOnce", apart := false }
def VerdictOnceSaid : Prop := verdictOnceRow.holds Try.pinned (OpenSpec.ofChange verdictOnceSpec)

/-- ITS FALSE NEIGHBOUR: 'it returns false'. Refute it at one input. -/
def verdictOnceWrong : ChangeSpec := { name := "verdictOnce", fn := fun _ => fun
  | [d1, d2] => { results := [.lit (.bool false)], args := [d1, d2] }
  | _ => none }
def VerdictOnceWrongFalsely : Prop := verdictOnceRow.holds Try.pinned (OpenSpec.ofChange verdictOnceWrong)

/-- 'escrowlaw18.VerdictLoads': WHATEVER THE INPUT: true; the input reads as it did. -/
def verdictLoadsSpec : ChangeSpec := { name := "verdictLoads", fn := fun _ => fun
  | [d] => { results := [.lit (.bool true)], args := [d] }
  | _ => none }
def verdictLoadsRow : OpenClaim := { program := "ytjmkoojojbfgpaa", sum := "6ca2ec0c2fe8cb331107765f327bb510c35b323eac1932184a7a1192ecbc8184", func := "escrow/escrowlaw18.VerdictLoads", spec := "verdictLoads", apart := false }
def VerdictLoadsSaid : Prop := verdictLoadsRow.holds Try.pinned (OpenSpec.ofChange verdictLoadsSpec)

/-- ITS FALSE NEIGHBOUR: 'it returns false'. Refute it at one input. -/
def verdictLoadsWrong : ChangeSpec := { name := "verdictLoads", fn := fun _ => fun
  | [d] => { results := [.lit (.bool false)], args := [d] }
  | _ => none }
def VerdictLoadsWrongFalsely : Prop := verdictLoadsRow.holds Try.pinned (OpenSpec.ofChange verdictLoadsWrong)

/-- 'escrowlaw18.VerdictAsks': WHATEVER THE INPUT: true; the input reads as it did. -/
def verdictAsksSpec : ChangeSpec := { name := "verdictAsks", fn := fun _ => fun
  | [d1, d2] => { results := [.lit (.bool true)], args := [d1, d2] }
  | _ => none }
def verdictAsksRow : OpenClaim := { program := "ytjmkoojojbfgpaa", sum := "6ca2ec0c2fe8cb331107765f327bb510c35b323eac1932184a7a1192ecbc8184", func := "escrow/escrowlaw18.VerdictAsks", spec := "verdictAsks", inPlace := ["maps.clone"], apart := false }
def VerdictAsksSaid : Prop := verdictAsksRow.holds Try.pinned (OpenSpec.ofChange verdictAsksSpec)

/-- ITS FALSE NEIGHBOUR: 'it returns false'. Refute it at one input. -/
def verdictAsksWrong : ChangeSpec := { name := "verdictAsks", fn := fun _ => fun
  | [d1, d2] => { results := [.lit (.bool false)], args := [d1, d2] }
  | _ => none }
def VerdictAsksWrongFalsely : Prop := verdictAsksRow.holds Try.pinned (OpenSpec.ofChange verdictAsksWrong)

/-- 'escrowlaw18.VerdictNil': WHATEVER THE INPUT: true; the input reads as it did. -/
def verdictNilSpec : ChangeSpec := { name := "verdictNil", fn := fun _ => fun
  | [] => { results := [.lit (.bool true)], args := [] }
  | _ => none }
def verdictNilRow : OpenClaim := { program := "ytjmkoojojbfgpaa", sum := "6ca2ec0c2fe8cb331107765f327bb510c35b323eac1932184a7a1192ecbc8184", func := "escrow/escrowlaw18.VerdictNil", spec := "verdictNil", inPlace := ["maps.clone"], apart := false }
def VerdictNilSaid : Prop := verdictNilRow.holds Try.pinned (OpenSpec.ofChange verdictNilSpec)

/-- ITS FALSE NEIGHBOUR: 'it returns false'. Refute it at one input. -/
def verdictNilWrong : ChangeSpec := { name := "verdictNil", fn := fun _ => fun
  | [] => { results := [.lit (.bool false)], args := [] }
  | _ => none }
def VerdictNilWrongFalsely : Prop := verdictNilRow.holds Try.pinned (OpenSpec.ofChange verdictNilWrong)

/- THE SECOND FORM. 'bulk': how many values and letters a reading holds, each counted each time it is reached (what is shared counts as often as it is met; a slice's spare places count too). A statement '..UptoSaid' is the law's where the arguments, and the package variables that the reading takes, are together of bulk at most 1048576: NARROWER than '..Said'. Prove '..Said' where nothing that the law and all that it calls make is longer than what came in: it says more and counts as full. Else prove '..UptoSaid'. A law counts once. -/
mutual
def uptoBulk {H : Type} : DataW H → Nat
  | .lit (.string bytes) => bytes.length + 1
  | .lit _ => 1
  | .nil => 1
  | .ptr d => uptoBulk d + 1
  | .slice elems spare => uptoBulkAll elems + uptoBulkAll spare + 1
  | .agg parts => uptoBulkAll parts + 1
  | .iface _ d => uptoBulk d + 1
  | .map entries => uptoBulkEntries entries + 1
  | .held _ => 1
def uptoBulkAll {H : Type} : List (DataW H) → Nat
  | [] => 0
  | d :: r => uptoBulk d + uptoBulkAll r
def uptoBulkEntries {H : Type} : List (Lit × DataW H) → Nat
  | [] => 0
  | x :: r => uptoBulkEntry x + uptoBulkEntries r
def uptoBulkEntry {H : Type} : Lit × DataW H → Nat
  | (.string bytes, d) => bytes.length + uptoBulk d + 1
  | (_, d) => uptoBulk d + 1
 end
def uptoSmall : (H : Type) → List (DataW H) → Bool := fun _ ds => decide (uptoBulkAll ds ≤ 1048576)
def OpenSpec.upto (s : _root_.Go.ChangeSpec) : _root_.Go.OpenSpec := { _root_.Go.OpenSpec.ofChange s with cond := some uptoSmall }

/-- 'escrowlaw18.VerdictAlone', WHERE WHAT IT READS IS OF BULK AT MOST 1048576: true; the input reads as it did. -/
def verdictAloneUptoRow : OpenClaim := { program := "ytjmkoojojbfgpaa", sum := "6ca2ec0c2fe8cb331107765f327bb510c35b323eac1932184a7a1192ecbc8184", func := "escrow/escrowlaw18.VerdictAlone", spec := "verdictAlone", apart := false, narrowed := true }
def VerdictAloneUptoSaid : Prop := verdictAloneUptoRow.holds Try.pinned (OpenSpec.upto verdictAloneSpec)

/-- 'escrowlaw18.VerdictOnce', WHERE WHAT IT READS IS OF BULK AT MOST 1048576: true; the input reads as it did. -/
def verdictOnceUptoRow : OpenClaim := { program := "ytjmkoojojbfgpaa", sum := "6ca2ec0c2fe8cb331107765f327bb510c35b323eac1932184a7a1192ecbc8184", func := "escrow/escrowlaw18.VerdictOnce", spec := "verdictOnce", apart := false, narrowed := true }
def VerdictOnceUptoSaid : Prop := verdictOnceUptoRow.holds Try.pinned (OpenSpec.upto verdictOnceSpec)

/-- 'escrowlaw18.VerdictLoads', WHERE WHAT IT READS IS OF BULK AT MOST 1048576: true; the input reads as it did. -/
def verdictLoadsUptoRow : OpenClaim := { program := "ytjmkoojojbfgpaa", sum := "6ca2ec0c2fe8cb331107765f327bb510c35b323eac1932184a7a1192ecbc8184", func := "escrow/escrowlaw18.VerdictLoads", spec := "verdictLoads", apart := false, narrowed := true }
def VerdictLoadsUptoSaid : Prop := verdictLoadsUptoRow.holds Try.pinned (OpenSpec.upto verdictLoadsSpec)

/-- 'escrowlaw18.VerdictAsks', WHERE WHAT IT READS IS OF BULK AT MOST 1048576: true; the input reads as it did. -/
def verdictAsksUptoRow : OpenClaim := { program := "ytjmkoojojbfgpaa", sum := "6ca2ec0c2fe8cb331107765f327bb510c35b323eac1932184a7a1192ecbc8184", func := "escrow/escrowlaw18.VerdictAsks", spec := "verdictAsks", inPlace := ["maps.clone"], apart := false, narrowed := true }
def VerdictAsksUptoSaid : Prop := verdictAsksUptoRow.holds Try.pinned (OpenSpec.upto verdictAsksSpec)

/-- 'escrowlaw18.VerdictNil', WHERE WHAT IT READS IS OF BULK AT MOST 1048576: true; the input reads as it did. -/
def verdictNilUptoRow : OpenClaim := { program := "ytjmkoojojbfgpaa", sum := "6ca2ec0c2fe8cb331107765f327bb510c35b323eac1932184a7a1192ecbc8184", func := "escrow/escrowlaw18.VerdictNil", spec := "verdictNil", inPlace := ["maps.clone"], apart := false, narrowed := true }
def VerdictNilUptoSaid : Prop := verdictNilUptoRow.holds Try.pinned (OpenSpec.upto verdictNilSpec)

end Rows
end Go.Proofs.Ytjmkoojojbfgpaa

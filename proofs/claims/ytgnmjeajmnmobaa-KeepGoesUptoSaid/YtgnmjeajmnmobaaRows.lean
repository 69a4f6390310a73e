/-
  No cell of these rows narrows 'for every input' (looked for: loops, veiled, ifaces, maps, wideKeys, modest, calm, conditions, laid).
  DERIVED. THE GIVEN ROWS OF THIS SEAT. 9 by the template 'for every input the law returns true; each argument reads behind the call as it read before'; 0 by the template 'total and deterministic' (their statements: YtgnmjeajmnmobaaTotals.lean).
  GIVEN WITH THE SEED: the statements are not yours to turn. If you find one false, say at which input.
  Laid BY PROGRAM, IN A SANDBOX (cutbox-rows.mjs): the forced cells as the released guide's own fill.sh prints them over the translation 6ade31655840ad57… (all of the seat's roots in one cut). By AI agents, Wed Nov 11 2026. No macro, syntax, notation, axiom, sorry.
-/
import Derived.Test.YtgnmjeajmnmobaaChecked
import GoSem.Claim
import GoSem.ClaimJoined
import GoSem.ClaimMapViews
import Derived.JoinedTies
import Derived.KernelRfl
namespace Go.Proofs.Ytgnmjeajmnmobaa
/- THE CELL 'sum', in the pinned program and in every row, IS THE sha256 OF THE DUMP (.gsa) THAT YtgnmjeajmnmobaaProg.lean LOADS. Nothing in Lean hashes anything: it is a label: what it is worth is what the hold of that sum in a sandbox is worth. -/
noncomputable def Try.pinned : Pinned := { name := "ytgnmjeajmnmobaa", sum := "6ade31655840ad573373dd101e2447d30532df4d7cd92ef195da15df55e66bd0", checked := Try.checked }
namespace Rows
def none {H : Type} : Left H := { results := [], args := [] }

/-- 'escrowlaw04.KeepGoes': WHATEVER THE INPUT: true; the input reads as it did. -/
def keepGoesSpec : ChangeSpec := { name := "keepGoes", fn := fun _ => fun
  | [d1, d2] => { results := [.lit (.bool true)], args := [d1, d2] }
  | _ => none }
def keepGoesRow : OpenClaim := { program := "ytgnmjeajmnmobaa", sum := "6ade31655840ad573373dd101e2447d30532df4d7cd92ef195da15df55e66bd0", func := "escrow/escrowlaw04.KeepGoes", spec := "keepGoes", unfollowed := true, recurses := true, apart := false }
def KeepGoesSaid : Prop := keepGoesRow.holds Try.pinned (OpenSpec.ofChange keepGoesSpec)

/-- ITS FALSE NEIGHBOUR: 'it returns false'. Refute it at one input. -/
def keepGoesWrong : ChangeSpec := { name := "keepGoes", fn := fun _ => fun
  | [d1, d2] => { results := [.lit (.bool false)], args := [d1, d2] }
  | _ => none }
def KeepGoesWrongFalsely : Prop := keepGoesRow.holds Try.pinned (OpenSpec.ofChange keepGoesWrong)

/-- 'escrowlaw04.KeepQueues': WHATEVER THE INPUT: true; the input reads as it did. -/
def keepQueuesSpec : ChangeSpec := { name := "keepQueues", fn := fun _ => fun
  | [d] => { results := [.lit (.bool true)], args := [d] }
  | _ => none }
def keepQueuesRow : OpenClaim := { program := "ytgnmjeajmnmobaa", sum := "6ade31655840ad573373dd101e2447d30532df4d7cd92ef195da15df55e66bd0", func := "escrow/escrowlaw04.KeepQueues", spec := "keepQueues", unfollowed := true, recurses := true, apart := false }
def KeepQueuesSaid : Prop := keepQueuesRow.holds Try.pinned (OpenSpec.ofChange keepQueuesSpec)

/-- ITS FALSE NEIGHBOUR: 'it returns false'. Refute it at one input. -/
def keepQueuesWrong : ChangeSpec := { name := "keepQueues", fn := fun _ => fun
  | [d] => { results := [.lit (.bool false)], args := [d] }
  | _ => none }
def KeepQueuesWrongFalsely : Prop := keepQueuesRow.holds Try.pinned (OpenSpec.ofChange keepQueuesWrong)

/-- 'escrowlaw04.KeepNumbers': WHATEVER THE INPUT: true; the input reads as it did. -/
def keepNumbersSpec : ChangeSpec := { name := "keepNumbers", fn := fun _ => fun
  | [d1, d2, d3] => { results := [.lit (.bool true)], args := [d1, d2, d3] }
  | _ => none }
def keepNumbersRow : OpenClaim := { program := "ytgnmjeajmnmobaa", sum := "6ade31655840ad573373dd101e2447d30532df4d7cd92ef195da15df55e66bd0", func := "escrow/escrowlaw04.KeepNumbers", spec := "keepNumbers", unfollowed := true, recurses := true, apart := false }
def KeepNumbersSaid : Prop := keepNumbersRow.holds Try.pinned (OpenSpec.ofChange keepNumbersSpec)

/-- ITS FALSE NEIGHBOUR: 'it returns false'. Refute it at one input. -/
def keepNumbersWrong : ChangeSpec := { name := "keepNumbers", fn := fun _ => fun
  | [d1, d2, d3] => { results := [.lit (.bool false)], args := [d1, d2, d3] }
  | _ => none }
def KeepNumbersWrongFalsely : Prop := keepNumbersRow.holds Try.pinned (OpenSpec.ofChange keepNumbersWrong)

/-- 'escrowlaw04.KeepRanks': WHATEVER THE INPUT: true; the input reads as it did. -/
def keepRanksSpec : ChangeSpec := { name := "keepRanks", fn := fun _ => fun
  | [d1, d2] => { results := [.lit (.bool true)], args := [d1, d2] }
  | _ => none }
def keepRanksRow : OpenClaim := { program := "ytgnmjeajmnmobaa", sum := "6ade31655840ad573373dd101e2447d30532df4d7cd92ef195da15df55e66bd0", func := "escrow/escrowlaw04.KeepRanks", spec := "keepRanks", unfollowed := true, recurses := true, apart := false }
def KeepRanksSaid : Prop := keepRanksRow.holds Try.pinned (OpenSpec.ofChange keepRanksSpec)

/-- ITS FALSE NEIGHBOUR: 'it returns false'. Refute it at one input. -/
def keepRanksWrong : ChangeSpec := { name := "keepRanks", fn := fun _ => fun
  | [d1, d2] => { results := [.lit (.bool false)], args := [d1, d2] }
  | _ => none }
def KeepRanksWrongFalsely : Prop := keepRanksRow.holds Try.pinned (OpenSpec.ofChange keepRanksWrong)

/-- 'escrowlaw04.KeepMerges': WHATEVER THE INPUT: true; the input reads as it did. -/
def keepMergesSpec : ChangeSpec := { name := "keepMerges", fn := fun _ => fun
  | [d1, d2] => { results := [.lit (.bool true)], args := [d1, d2] }
  | _ => none }
def keepMergesRow : OpenClaim := { program := "ytgnmjeajmnmobaa", sum := "6ade31655840ad573373dd101e2447d30532df4d7cd92ef195da15df55e66bd0", func := "escrow/escrowlaw04.KeepMerges", spec := "keepMerges", unfollowed := true, recurses := true, apart := false }
def KeepMergesSaid : Prop := keepMergesRow.holds Try.pinned (OpenSpec.ofChange keepMergesSpec)

/-- ITS FALSE NEIGHBOUR: 'it returns false'. Refute it at one input. -/
def keepMergesWrong : ChangeSpec := { name := "keepMerges", fn := fun _ => fun
  | [d1, d2] => { results := [.lit (.bool false)], args := [d1, d2] }
  | _ => none }
def KeepMergesWrongFalsely : Prop := keepMergesRow.holds Try.pinned (OpenSpec.ofChange keepMergesWrong)

/-- 'escrowlaw04.KeepSorts': WHATEVER THE INPUT: true; the input reads as it did. -/
def keepSortsSpec : ChangeSpec := { name := "keepSorts", fn := fun _ => fun
  | [d] => { results := [.lit (.bool true)], args := [d] }
  | _ => none }
def keepSortsRow : OpenClaim := { program := "ytgnmjeajmnmobaa", sum := "6ade31655840ad573373dd101e2447d30532df4d7cd92ef195da15df55e66bd0", func := "escrow/escrowlaw04.KeepSorts", spec := "keepSorts", unfollowed := true, recurses := true, apart := false }
def KeepSortsSaid : Prop := keepSortsRow.holds Try.pinned (OpenSpec.ofChange keepSortsSpec)

/-- ITS FALSE NEIGHBOUR: 'it returns false'. Refute it at one input. -/
def keepSortsWrong : ChangeSpec := { name := "keepSorts", fn := fun _ => fun
  | [d] => { results := [.lit (.bool false)], args := [d] }
  | _ => none }
def KeepSortsWrongFalsely : Prop := keepSortsRow.holds Try.pinned (OpenSpec.ofChange keepSortsWrong)

/-- 'escrowlaw04.KeepMaps': WHATEVER THE INPUT: true; the input reads as it did. -/
def keepMapsSpec : ChangeSpec := { name := "keepMaps", fn := fun _ => fun
  | [d] => { results := [.lit (.bool true)], args := [d] }
  | _ => none }
def keepMapsRow : OpenClaim := { program := "ytgnmjeajmnmobaa", sum := "6ade31655840ad573373dd101e2447d30532df4d7cd92ef195da15df55e66bd0", func := "escrow/escrowlaw04.KeepMaps", spec := "keepMaps", unfollowed := true, recurses := true, apart := false }
def KeepMapsSaid : Prop := keepMapsRow.holds Try.pinned (OpenSpec.ofChange keepMapsSpec)

/-- ITS FALSE NEIGHBOUR: 'it returns false'. Refute it at one input. -/
def keepMapsWrong : ChangeSpec := { name := "keepMaps", fn := fun _ => fun
  | [d] => { results := [.lit (.bool false)], args := [d] }
  | _ => none }
def KeepMapsWrongFalsely : Prop := keepMapsRow.holds Try.pinned (OpenSpec.ofChange keepMapsWrong)

/-- 'escrowlaw04.KeepHeaps': WHATEVER THE INPUT: true; the input reads as it did. -/
def keepHeapsSpec : ChangeSpec := { name := "keepHeaps", fn := fun _ => fun
  | [d] => { results := [.lit (.bool true)], args := [d] }
  | _ => none }
def keepHeapsRow : OpenClaim := { program := "ytgnmjeajmnmobaa", sum := "6ade31655840ad573373dd101e2447d30532df4d7cd92ef195da15df55e66bd0", func := "escrow/escrowlaw04.KeepHeaps", spec := "keepHeaps", unfollowed := true, recurses := true, apart := false }
def KeepHeapsSaid : Prop := keepHeapsRow.holds Try.pinned (OpenSpec.ofChange keepHeapsSpec)

/-- ITS FALSE NEIGHBOUR: 'it returns false'. Refute it at one input. -/
def keepHeapsWrong : ChangeSpec := { name := "keepHeaps", fn := fun _ => fun
  | [d] => { results := [.lit (.bool false)], args := [d] }
  | _ => none }
def KeepHeapsWrongFalsely : Prop := keepHeapsRow.holds Try.pinned (OpenSpec.ofChange keepHeapsWrong)

/-- 'escrowlaw04.KeepNil': WHATEVER THE INPUT: true; the input reads as it did. -/
def keepNilSpec : ChangeSpec := { name := "keepNil", fn := fun _ => fun
  | [] => { results := [.lit (.bool true)], args := [] }
  | _ => none }
def keepNilRow : OpenClaim := { program := "ytgnmjeajmnmobaa", sum := "6ade31655840ad573373dd101e2447d30532df4d7cd92ef195da15df55e66bd0", func := "escrow/escrowlaw04.KeepNil", spec := "keepNil", unfollowed := true, recurses := true, apart := false }
def KeepNilSaid : Prop := keepNilRow.holds Try.pinned (OpenSpec.ofChange keepNilSpec)

/-- ITS FALSE NEIGHBOUR: 'it returns false'. Refute it at one input. -/
def keepNilWrong : ChangeSpec := { name := "keepNil", fn := fun _ => fun
  | [] => { results := [.lit (.bool false)], args := [] }
  | _ => none }
def KeepNilWrongFalsely : Prop := keepNilRow.holds Try.pinned (OpenSpec.ofChange keepNilWrong)

/- THE SECOND FORM. 'bulk': how many values and letters a reading holds, each counted each time it is reached (what is shared counts as often as it is met; a slice's spare places count too). A statement '..UptoSaid' is the law's where the arguments, and the package variables that the reading takes, are together of bulk at most 1048576: NARROWER than '..Said'. Prove '..Said' where nothing that the law and all that it calls make is longer than what came in: it says more and counts as full. Else prove '..UptoSaid'. A law counts once. -/
mutual
def uptoBulk {H : Type} : DataW H → Nat
  | .lit (.string bytes) => bytes.length + 1
  | .lit _ => 1
  | .nil => 1
  | .ptr d => uptoBulk d + 1
  | .slice elems spare => uptoBulkAll elems + uptoBulkAll spare + 1
  | .agg parts => uptoBulkAll parts + 1
  | .iface _ d => uptoBulk d + 1
  | .map entries => uptoBulkEntries entries + 1
  | .held _ => 1
def uptoBulkAll {H : Type} : List (DataW H) → Nat
  | [] => 0
  | d :: r => uptoBulk d + uptoBulkAll r
def uptoBulkEntries {H : Type} : List (Lit × DataW H) → Nat
  | [] => 0
  | x :: r => uptoBulkEntry x + uptoBulkEntries r
def uptoBulkEntry {H : Type} : Lit × DataW H → Nat
  | (.string bytes, d) => bytes.length + uptoBulk d + 1
  | (_, d) => uptoBulk d + 1
 end
def uptoSmall : (H : Type) → List (DataW H) → Bool := fun _ ds => decide (uptoBulkAll ds ≤ 1048576)
def OpenSpec.upto (s : _root_.Go.ChangeSpec) : _root_.Go.OpenSpec := { _root_.Go.OpenSpec.ofChange s with cond := some uptoSmall }

/-- 'escrowlaw04.KeepGoes', WHERE WHAT IT READS IS OF BULK AT MOST 1048576: true; the input reads as it did. -/
def keepGoesUptoRow : OpenClaim := { program := "ytgnmjeajmnmobaa", sum := "6ade31655840ad573373dd101e2447d30532df4d7cd92ef195da15df55e66bd0", func := "escrow/escrowlaw04.KeepGoes", spec := "keepGoes", unfollowed := true, recurses := true, apart := false, narrowed := true }
def KeepGoesUptoSaid : Prop := keepGoesUptoRow.holds Try.pinned (OpenSpec.upto keepGoesSpec)

/-- 'escrowlaw04.KeepQueues', WHERE WHAT IT READS IS OF BULK AT MOST 1048576: true; the input reads as it did. -/
def keepQueuesUptoRow : OpenClaim := { program := "ytgnmjeajmnmobaa", sum := "6ade31655840ad573373dd101e2447d30532df4d7cd92ef195da15df55e66bd0", func := "escrow/escrowlaw04.KeepQueues", spec := "keepQueues", unfollowed := true, recurses := true, apart := false, narrowed := true }
def KeepQueuesUptoSaid : Prop := keepQueuesUptoRow.holds Try.pinned (OpenSpec.upto keepQueuesSpec)

/-- 'escrowlaw04.KeepNumbers', WHERE WHAT IT READS IS OF BULK AT MOST 1048576: true; the input reads as it did. -/
def keepNumbersUptoRow : OpenClaim := { program := "ytgnmjeajmnmobaa", sum := "6ade31655840ad573373dd101e2447d30532df4d7cd92ef195da15df55e66bd0", func := "escrow/escrowlaw04.KeepNumbers", spec := "keepNumbers", unfollowed := true, recurses := true, apart := false, narrowed := true }
def KeepNumbersUptoSaid : Prop := keepNumbersUptoRow.holds Try.pinned (OpenSpec.upto keepNumbersSpec)

/-- 'escrowlaw04.KeepRanks', WHERE WHAT IT READS IS OF BULK AT MOST 1048576: true; the input reads as it did. -/
def keepRanksUptoRow : OpenClaim := { program := "ytgnmjeajmnmobaa", sum := "6ade31655840ad573373dd101e2447d30532df4d7cd92ef195da15df55e66bd0", func := "escrow/escrowlaw04.KeepRanks", spec := "keepRanks", unfollowed := true, recurses := true, apart := false, narrowed := true }
def KeepRanksUptoSaid : Prop := keepRanksUptoRow.holds Try.pinned (OpenSpec.upto keepRanksSpec)

/-- 'escrowlaw04.KeepMerges', WHERE WHAT IT READS IS OF BULK AT MOST 1048576: true; the input reads as it did. -/
def keepMergesUptoRow : OpenClaim := { program := "ytgnmjeajmnmobaa", sum := "6ade31655840ad573373dd101e2447d30532df4d7cd92ef195da15df55e66bd0", func := "escrow/escrowlaw04.KeepMerges", spec := "keepMerges", unfollowed := true, recurses := true, apart := false, narrowed := true }
def KeepMergesUptoSaid : Prop := keepMergesUptoRow.holds Try.pinned (OpenSpec.upto keepMergesSpec)

/-- 'escrowlaw04.KeepSorts', WHERE WHAT IT READS IS OF BULK AT MOST 1048576: true; the input reads as it did. -/
def keepSortsUptoRow : OpenClaim := { program := "ytgnmjeajmnmobaa", sum := "6ade31655840ad573373dd101e2447d30532df4d7cd92ef195da15df55e66bd0", func := "escrow/escrowlaw04.KeepSorts", spec := "keepSorts", unfollowed := true, recurses := true, apart := false, narrowed := true }
def KeepSortsUptoSaid : Prop := keepSortsUptoRow.holds Try.pinned (OpenSpec.upto keepSortsSpec)

/-- 'escrowlaw04.KeepMaps', WHERE WHAT IT READS IS OF BULK AT MOST 1048576: true; the input reads as it did. -/
def keepMapsUptoRow : OpenClaim := { program := "ytgnmjeajmnmobaa", sum := "6ade31655840ad573373dd101e2447d30532df4d7cd92ef195da15df55e66bd0", func := "escrow/escrowlaw04.KeepMaps", spec := "keepMaps", unfollowed := true, recurses := true, apart := false, narrowed := true }
def KeepMapsUptoSaid : Prop := keepMapsUptoRow.holds Try.pinned (OpenSpec.upto keepMapsSpec)

/-- 'escrowlaw04.KeepHeaps', WHERE WHAT IT READS IS OF BULK AT MOST 1048576: true; the input reads as it did. -/
def keepHeapsUptoRow : OpenClaim := { program := "ytgnmjeajmnmobaa", sum := "6ade31655840ad573373dd101e2447d30532df4d7cd92ef195da15df55e66bd0", func := "escrow/escrowlaw04.KeepHeaps", spec := "keepHeaps", unfollowed := true, recurses := true, apart := false, narrowed := true }
def KeepHeapsUptoSaid : Prop := keepHeapsUptoRow.holds Try.pinned (OpenSpec.upto keepHeapsSpec)

/-- 'escrowlaw04.KeepNil', WHERE WHAT IT READS IS OF BULK AT MOST 1048576: true; the input reads as it did. -/
def keepNilUptoRow : OpenClaim := { program := "ytgnmjeajmnmobaa", sum := "6ade31655840ad573373dd101e2447d30532df4d7cd92ef195da15df55e66bd0", func := "escrow/escrowlaw04.KeepNil", spec := "keepNil", unfollowed := true, recurses := true, apart := false, narrowed := true }
def KeepNilUptoSaid : Prop := keepNilUptoRow.holds Try.pinned (OpenSpec.upto keepNilSpec)

end Rows
end Go.Proofs.Ytgnmjeajmnmobaa

/-
  NARROWER THAN 'FOR EVERY INPUT', by the rows' own cells (each row's printed sentence says how): TermTrees: loops · TermOnce: loops · TermFull: loops · TermSubs: loops · TermCompares: loops · TermCopies: loops.
  DERIVED. THE GIVEN ROWS OF THIS SEAT. 8 by the template 'for every input the law returns true; each argument reads behind the call as it read before'; 0 by the template 'total and deterministic' (their statements: YtebecelhcpljaaaTotals.lean).
  GIVEN WITH THE SEED: the statements are not yours to turn. If you find one false, say at which input.
  Laid BY PROGRAM, IN A SANDBOX (cutbox-rows.mjs): the forced cells as the released guide's own fill.sh prints them over the translation e01d3e0bc889f83c… (all of the seat's roots in one cut). By AI agents, Wed Nov 11 2026. No macro, syntax, notation, axiom, sorry.
-/
import Derived.Test.YtebecelhcpljaaaChecked
import GoSem.Claim
import GoSem.ClaimJoined
import GoSem.ClaimMapViews
import Derived.JoinedTies
import Derived.KernelRfl
namespace Go.Proofs.Ytebecelhcpljaaa
/- THE CELL 'sum', in the pinned program and in every row, IS THE sha256 OF THE DUMP (.gsa) THAT YtebecelhcpljaaaProg.lean LOADS. Nothing in Lean hashes anything: it is a label: what it is worth is what the hold of that sum in a sandbox is worth. -/
noncomputable def Try.pinned : Pinned := { name := "ytebecelhcpljaaa", sum := "e01d3e0bc889f83c1f7dcf887cc1c416b37944985a6574c81feabe5f7a17ae35", checked := Try.checked }
namespace Rows
def none {H : Type} : Left H := { results := [], args := [] }

/-- 'escrowlaw05.TermMakes': WHATEVER THE INPUT: true; the input reads as it did. -/
def termMakesSpec : ChangeSpec := { name := "termMakes", fn := fun _ => fun
  | [d1, d2] => { results := [.lit (.bool true)], args := [d1, d2] }
  | _ => none }
def termMakesRow : OpenClaim := { program := "ytebecelhcpljaaa", sum := "e01d3e0bc889f83c1f7dcf887cc1c416b37944985a6574c81feabe5f7a17ae35", func := "escrow/escrowlaw05.TermMakes", spec := "termMakes", plainKeys := false, apart := false }
def TermMakesSaid : Prop := termMakesRow.holds Try.pinned (OpenSpec.ofChange termMakesSpec)

/-- ITS FALSE NEIGHBOUR: 'it returns false'. Refute it at one input. -/
def termMakesWrong : ChangeSpec := { name := "termMakes", fn := fun _ => fun
  | [d1, d2] => { results := [.lit (.bool false)], args := [d1, d2] }
  | _ => none }
def TermMakesWrongFalsely : Prop := termMakesRow.holds Try.pinned (OpenSpec.ofChange termMakesWrong)

/-- 'escrowlaw05.TermTrees': WHATEVER THE INPUT: true; the input reads as it did. -/
def termTreesSpec : ChangeSpec := { name := "termTrees", fn := fun _ => fun
  | [d] => { results := [.lit (.bool true)], args := [d] }
  | _ => none }
def termTreesRow : OpenClaim := { program := "ytebecelhcpljaaa", sum := "e01d3e0bc889f83c1f7dcf887cc1c416b37944985a6574c81feabe5f7a17ae35", func := "escrow/escrowlaw05.TermTrees", spec := "termTrees", recurses := true, loops := true, plainKeys := false, apart := false }
def TermTreesSaid : Prop := termTreesRow.holds Try.pinned (OpenSpec.ofChange termTreesSpec)

/-- ITS FALSE NEIGHBOUR: 'it returns false'. Refute it at one input. -/
def termTreesWrong : ChangeSpec := { name := "termTrees", fn := fun _ => fun
  | [d] => { results := [.lit (.bool false)], args := [d] }
  | _ => none }
def TermTreesWrongFalsely : Prop := termTreesRow.holds Try.pinned (OpenSpec.ofChange termTreesWrong)

/-- 'escrowlaw05.TermOnce': WHATEVER THE INPUT: true; the input reads as it did. -/
def termOnceSpec : ChangeSpec := { name := "termOnce", fn := fun _ => fun
  | [d1, d2] => { results := [.lit (.bool true)], args := [d1, d2] }
  | _ => none }
def termOnceRow : OpenClaim := { program := "ytebecelhcpljaaa", sum := "e01d3e0bc889f83c1f7dcf887cc1c416b37944985a6574c81feabe5f7a17ae35", func := "escrow/escrowlaw05.TermOnce", spec := "termOnce", recurses := true, loops := true, plainKeys := false, apart := false }
def TermOnceSaid : Prop := termOnceRow.holds Try.pinned (OpenSpec.ofChange termOnceSpec)

/-- ITS FALSE NEIGHBOUR: 'it returns false'. Refute it at one input. -/
def termOnceWrong : ChangeSpec := { name := "termOnce", fn := fun _ => fun
  | [d1, d2] => { results := [.lit (.bool false)], args := [d1, d2] }
  | _ => none }
def TermOnceWrongFalsely : Prop := termOnceRow.holds Try.pinned (OpenSpec.ofChange termOnceWrong)

/-- 'escrowlaw05.TermFull': WHATEVER THE INPUT: true; the input reads as it did. -/
def termFullSpec : ChangeSpec := { name := "termFull", fn := fun _ => fun
  | [d1, d2] => { results := [.lit (.bool true)], args := [d1, d2] }
  | _ => none }
def termFullRow : OpenClaim := { program := "ytebecelhcpljaaa", sum := "e01d3e0bc889f83c1f7dcf887cc1c416b37944985a6574c81feabe5f7a17ae35", func := "escrow/escrowlaw05.TermFull", spec := "termFull", recurses := true, loops := true, plainKeys := false, apart := false }
def TermFullSaid : Prop := termFullRow.holds Try.pinned (OpenSpec.ofChange termFullSpec)

/-- ITS FALSE NEIGHBOUR: 'it returns false'. Refute it at one input. -/
def termFullWrong : ChangeSpec := { name := "termFull", fn := fun _ => fun
  | [d1, d2] => { results := [.lit (.bool false)], args := [d1, d2] }
  | _ => none }
def TermFullWrongFalsely : Prop := termFullRow.holds Try.pinned (OpenSpec.ofChange termFullWrong)

/-- 'escrowlaw05.TermSubs': WHATEVER THE INPUT: true; the input reads as it did. -/
def termSubsSpec : ChangeSpec := { name := "termSubs", fn := fun _ => fun
  | [d1, d2] => { results := [.lit (.bool true)], args := [d1, d2] }
  | _ => none }
def termSubsRow : OpenClaim := { program := "ytebecelhcpljaaa", sum := "e01d3e0bc889f83c1f7dcf887cc1c416b37944985a6574c81feabe5f7a17ae35", func := "escrow/escrowlaw05.TermSubs", spec := "termSubs", unfollowed := true, recurses := true, loops := true, plainKeys := false, apart := false }
def TermSubsSaid : Prop := termSubsRow.holds Try.pinned (OpenSpec.ofChange termSubsSpec)

/-- ITS FALSE NEIGHBOUR: 'it returns false'. Refute it at one input. -/
def termSubsWrong : ChangeSpec := { name := "termSubs", fn := fun _ => fun
  | [d1, d2] => { results := [.lit (.bool false)], args := [d1, d2] }
  | _ => none }
def TermSubsWrongFalsely : Prop := termSubsRow.holds Try.pinned (OpenSpec.ofChange termSubsWrong)

/-- 'escrowlaw05.TermCompares': WHATEVER THE INPUT: true; the input reads as it did. -/
def termComparesSpec : ChangeSpec := { name := "termCompares", fn := fun _ => fun
  | [d1, d2, d3, d4] => { results := [.lit (.bool true)], args := [d1, d2, d3, d4] }
  | _ => none }
def termComparesRow : OpenClaim := { program := "ytebecelhcpljaaa", sum := "e01d3e0bc889f83c1f7dcf887cc1c416b37944985a6574c81feabe5f7a17ae35", func := "escrow/escrowlaw05.TermCompares", spec := "termCompares", recurses := true, loops := true, plainKeys := false, apart := false }
def TermComparesSaid : Prop := termComparesRow.holds Try.pinned (OpenSpec.ofChange termComparesSpec)

/-- ITS FALSE NEIGHBOUR: 'it returns false'. Refute it at one input. -/
def termComparesWrong : ChangeSpec := { name := "termCompares", fn := fun _ => fun
  | [d1, d2, d3, d4] => { results := [.lit (.bool false)], args := [d1, d2, d3, d4] }
  | _ => none }
def TermComparesWrongFalsely : Prop := termComparesRow.holds Try.pinned (OpenSpec.ofChange termComparesWrong)

/-- 'escrowlaw05.TermCopies': WHATEVER THE INPUT: true; the input reads as it did. -/
def termCopiesSpec : ChangeSpec := { name := "termCopies", fn := fun _ => fun
  | [d1, d2, d3] => { results := [.lit (.bool true)], args := [d1, d2, d3] }
  | _ => none }
def termCopiesRow : OpenClaim := { program := "ytebecelhcpljaaa", sum := "e01d3e0bc889f83c1f7dcf887cc1c416b37944985a6574c81feabe5f7a17ae35", func := "escrow/escrowlaw05.TermCopies", spec := "termCopies", unfollowed := true, recurses := true, loops := true, plainKeys := false, apart := false }
def TermCopiesSaid : Prop := termCopiesRow.holds Try.pinned (OpenSpec.ofChange termCopiesSpec)

/-- ITS FALSE NEIGHBOUR: 'it returns false'. Refute it at one input. -/
def termCopiesWrong : ChangeSpec := { name := "termCopies", fn := fun _ => fun
  | [d1, d2, d3] => { results := [.lit (.bool false)], args := [d1, d2, d3] }
  | _ => none }
def TermCopiesWrongFalsely : Prop := termCopiesRow.holds Try.pinned (OpenSpec.ofChange termCopiesWrong)

/-- 'escrowlaw05.TermNil': WHATEVER THE INPUT: true; the input reads as it did. -/
def termNilSpec : ChangeSpec := { name := "termNil", fn := fun _ => fun
  | [d1, d2] => { results := [.lit (.bool true)], args := [d1, d2] }
  | _ => none }
def termNilRow : OpenClaim := { program := "ytebecelhcpljaaa", sum := "e01d3e0bc889f83c1f7dcf887cc1c416b37944985a6574c81feabe5f7a17ae35", func := "escrow/escrowlaw05.TermNil", spec := "termNil", recurses := true, plainKeys := false, apart := false }
def TermNilSaid : Prop := termNilRow.holds Try.pinned (OpenSpec.ofChange termNilSpec)

/-- ITS FALSE NEIGHBOUR: 'it returns false'. Refute it at one input. -/
def termNilWrong : ChangeSpec := { name := "termNil", fn := fun _ => fun
  | [d1, d2] => { results := [.lit (.bool false)], args := [d1, d2] }
  | _ => none }
def TermNilWrongFalsely : Prop := termNilRow.holds Try.pinned (OpenSpec.ofChange termNilWrong)

/- THE SECOND FORM. 'bulk': how many values and letters a reading holds, each counted each time it is reached (what is shared counts as often as it is met; a slice's spare places count too). A statement '..UptoSaid' is the law's where the arguments, and the package variables that the reading takes, are together of bulk at most 1048576: NARROWER than '..Said'. Prove '..Said' where nothing that the law and all that it calls make is longer than what came in: it says more and counts as full. Else prove '..UptoSaid'. A law counts once. -/
mutual
def uptoBulk {H : Type} : DataW H → Nat
  | .lit (.string bytes) => bytes.length + 1
  | .lit _ => 1
  | .nil => 1
  | .ptr d => uptoBulk d + 1
  | .slice elems spare => uptoBulkAll elems + uptoBulkAll spare + 1
  | .agg parts => uptoBulkAll parts + 1
  | .iface _ d => uptoBulk d + 1
  | .map entries => uptoBulkEntries entries + 1
  | .held _ => 1
def uptoBulkAll {H : Type} : List (DataW H) → Nat
  | [] => 0
  | d :: r => uptoBulk d + uptoBulkAll r
def uptoBulkEntries {H : Type} : List (Lit × DataW H) → Nat
  | [] => 0
  | x :: r => uptoBulkEntry x + uptoBulkEntries r
def uptoBulkEntry {H : Type} : Lit × DataW H → Nat
  | (.string bytes, d) => bytes.length + uptoBulk d + 1
  | (_, d) => uptoBulk d + 1
 end
def uptoSmall : (H : Type) → List (DataW H) → Bool := fun _ ds => decide (uptoBulkAll ds ≤ 1048576)
def OpenSpec.upto (s : _root_.Go.ChangeSpec) : _root_.Go.OpenSpec := { _root_.Go.OpenSpec.ofChange s with cond := some uptoSmall }

/-- 'escrowlaw05.TermMakes', WHERE WHAT IT READS IS OF BULK AT MOST 1048576: true; the input reads as it did. -/
def termMakesUptoRow : OpenClaim := { program := "ytebecelhcpljaaa", sum := "e01d3e0bc889f83c1f7dcf887cc1c416b37944985a6574c81feabe5f7a17ae35", func := "escrow/escrowlaw05.TermMakes", spec := "termMakes", plainKeys := false, apart := false, narrowed := true }
def TermMakesUptoSaid : Prop := termMakesUptoRow.holds Try.pinned (OpenSpec.upto termMakesSpec)

/-- 'escrowlaw05.TermTrees', WHERE WHAT IT READS IS OF BULK AT MOST 1048576: true; the input reads as it did. -/
def termTreesUptoRow : OpenClaim := { program := "ytebecelhcpljaaa", sum := "e01d3e0bc889f83c1f7dcf887cc1c416b37944985a6574c81feabe5f7a17ae35", func := "escrow/escrowlaw05.TermTrees", spec := "termTrees", recurses := true, loops := true, plainKeys := false, apart := false, narrowed := true }
def TermTreesUptoSaid : Prop := termTreesUptoRow.holds Try.pinned (OpenSpec.upto termTreesSpec)

/-- 'escrowlaw05.TermOnce', WHERE WHAT IT READS IS OF BULK AT MOST 1048576: true; the input reads as it did. -/
def termOnceUptoRow : OpenClaim := { program := "ytebecelhcpljaaa", sum := "e01d3e0bc889f83c1f7dcf887cc1c416b37944985a6574c81feabe5f7a17ae35", func := "escrow/escrowlaw05.TermOnce", spec := "termOnce", recurses := true, loops := true, plainKeys := false, apart := false, narrowed := true }
def TermOnceUptoSaid : Prop := termOnceUptoRow.holds Try.pinned (OpenSpec.upto termOnceSpec)

/-- 'escrowlaw05.TermFull', WHERE WHAT IT READS IS OF BULK AT MOST 1048576: true; the input reads as it did. -/
def termFullUptoRow : OpenClaim := { program := "ytebecelhcpljaaa", sum := "e01d3e0bc889f83c1f7dcf887cc1c416b37944985a6574c81feabe5f7a17ae35", func := "escrow/escrowlaw05.TermFull", spec := "termFull", recurses := true, loops := true, plainKeys := false, apart := false, narrowed := true }
def TermFullUptoSaid : Prop := termFullUptoRow.holds Try.pinned (OpenSpec.upto termFullSpec)

/-- 'escrowlaw05.TermSubs', WHERE WHAT IT READS IS OF BULK AT MOST 1048576: true; the input reads as it did. -/
def termSubsUptoRow : OpenClaim := { program := "ytebecelhcpljaaa", sum := "e01d3e0bc889f83c1f7dcf887cc1c416b37944985a6574c81feabe5f7a17ae35", func := "escrow/escrowlaw05.TermSubs", spec := "termSubs", unfollowed := true, recurses := true, loops := true, plainKeys := false, apart := false, narrowed := true }
def TermSubsUptoSaid : Prop := termSubsUptoRow.holds Try.pinned (OpenSpec.upto termSubsSpec)

/-- 'escrowlaw05.TermCompares', WHERE WHAT IT READS IS OF BULK AT MOST 1048576: true; the input reads as it did. -/
def termComparesUptoRow : OpenClaim := { program := "ytebecelhcpljaaa", sum := "e01d3e0bc889f83c1f7dcf887cc1c416b37944985a6574c81feabe5f7a17ae35", func := "escrow/escrowlaw05.TermCompares", spec := "termCompares", recurses := true, loops := true, plainKeys := false, apart := false, narrowed := true }
def TermComparesUptoSaid : Prop := termComparesUptoRow.holds Try.pinned (OpenSpec.upto termComparesSpec)

/-- 'escrowlaw05.TermCopies', WHERE WHAT IT READS IS OF BULK AT MOST 1048576: true; the input reads as it did. -/
def termCopiesUptoRow : OpenClaim := { program := "ytebecelhcpljaaa", sum := "e01d3e0bc889f83c1f7dcf887cc1c416b37944985a6574c81feabe5f7a17ae35", func := "escrow/escrowlaw05.TermCopies", spec := "termCopies", unfollowed := true, recurses := true, loops := true, plainKeys := false, apart := false, narrowed := true }
def TermCopiesUptoSaid : Prop := termCopiesUptoRow.holds Try.pinned (OpenSpec.upto termCopiesSpec)

/-- 'escrowlaw05.TermNil', WHERE WHAT IT READS IS OF BULK AT MOST 1048576: true; the input reads as it did. -/
def termNilUptoRow : OpenClaim := { program := "ytebecelhcpljaaa", sum := "e01d3e0bc889f83c1f7dcf887cc1c416b37944985a6574c81feabe5f7a17ae35", func := "escrow/escrowlaw05.TermNil", spec := "termNil", recurses := true, plainKeys := false, apart := false, narrowed := true }
def TermNilUptoSaid : Prop := termNilUptoRow.holds Try.pinned (OpenSpec.upto termNilSpec)

end Rows
end Go.Proofs.Ytebecelhcpljaaa

/- Layer 5: trees that came in: their plain form, and what is known of their memory. No program in sight. -/
import Derived.Test.YtebecelhcpljaaaModel
import Derived.Test.YtebecelhcpljaaaGxAgg
import Derived.Test.YtebecelhcpljaaaGxRd
set_option linter.unusedVariables false
set_option linter.unusedSimpArgs false
namespace Go.Gx.Trm
open Go.Gx Go.RowKit Go.ChangeShapes Go.WideShapes Go.ChangeAt
/-- a tree as it lies: its fields, the place and the room of its list of kids, and these -/
inductive Tr where
  | mk (kind frm dst num : Int) (text : ByteArray) (a : Option Addr) (c : Nat) (kids : List Tr)
instance : Inhabited Tr := ⟨.mk 0 0 0 0 ⟨#[]⟩ none 0 []⟩
namespace Tr
def kind : Tr → Int | mk k _ _ _ _ _ _ _ => k
def kids : Tr → List Tr | mk _ _ _ _ _ _ _ ks => ks
def adr : Tr → Option Addr | mk _ _ _ _ _ a _ _ => a
def cap : Tr → Nat | mk _ _ _ _ _ _ c _ => c
/-- its node, without kids -/
def nd : Tr → Nd | mk k f d n t _ _ _ => ⟨k, f, d, n, t, 0, 0⟩
def cells : Tr → List Value | mk k f d n t a c ks => [.int .i64 k, .int .i64 f, .int .i64 d, .int .u64 n, .string t, .slice a ks.length c]
theorem ind {P : Tr → Prop} (h : ∀ t : Tr, (∀ k ∈ t.kids, P k) → P t) : ∀ t, P t
  | mk k f d n t a c ks => h _ fun x hx => by
    have : SizeOf.sizeOf x < SizeOf.sizeOf (mk k f d n t a c ks) := by
      have hx : x ∈ ks := hx
      have := List.sizeOf_lt_of_mem hx
      simp; omega
    exact ind h x
termination_by t => SizeOf.sizeOf t
decreasing_by assumption
end Tr
def rowsT (l : List Tr) : List Value := l.flatMap Tr.cells
theorem Tr.cells_len (t : Tr) : t.cells.length = 6 := by cases t; rfl
theorem rowsT_length (l : List Tr) : (rowsT l).length = l.length * 6 := by
  induction l with
  | nil => rfl
  | cons x l ih => simp only [rowsT, List.flatMap_cons, List.length_append, List.length_cons] at *; rw [ih, Tr.cells_len]; omega
/-- its cells and those of all below can be read as long as R is kept -/
inductive TrR (w0 : World) (D : Nat → Prop) (R : List Ent) : Tr → Prop where
  | mk {k f d n : Int} {t : ByteArray} {a : Option Addr} {c : Nat} {ks : List Tr} (h : Rd w0 D R a (rowsT ks)) (hc : ks.length ≤ c) (hm : ks.length ≤ 9223372036854775807) (hs : ∀ x ∈ ks, TrR w0 D R x) : TrR w0 D R (.mk k f d n t a c ks)
theorem TrR.push {w0 : World} {D : Nat → Prop} {R : List Ent} : ∀ {t : Tr}, TrR w0 D R t → ∀ A, TrR w0 D (A ++ R) t := fun h A => by
  induction h with
  | mk h hc hm hs ih => exact .mk (h.push A) hc hm ih
end Go.Gx.Trm

import Derived.Test.YtajconlnacbmjaaTab
import Derived.Test.YtajconlnacbmjaaGxOld
set_option linter.unusedVariables false
set_option linter.unusedSimpArgs false
namespace Go.Gx.Net
open Go.Gx
/-- an act of the law's -/
structure Ac where
  kind : Int
  a : Int
  b : Int
  body : ByteArray
  on : Bool
def Ac.cells (x : Ac) : List Value := [.int .i64 x.kind, .int .i64 x.a, .int .i64 x.b, .string x.body, .bool x.on]
def AcRow (w0 : World) (D : Nat → Prop) (x : Option Addr) (l : List Ac) : Prop := ∀ (k : Nat) (c : Ac), l[k]? = some c → ∃ b off, x = some ⟨b, off, none⟩ ∧ Old w0 D b (off + k * 5) c.cells
theorem AcRow.of {w : World} {x : Option Addr} {l : List Ac} (h : OldRow w x (l.map Ac.cells) 5) : AcRow w (fun _ => False) x l := fun k c hc =>
  h.at (i := k) (vs := c.cells) (by rw [List.getElem?_map, hc]; rfl)
def HugeP (w0 : World) (D : Nat → Prop) (R : List Ent) (n : Nat) (e : Ending) (w' : World) : Prop := ∃ hb : Bool, e = .returned (.bool hb) ∧ (hb = false → n ≤ 200) ∧ Hp w0 D R w'
end Go.Gx.Net
theorem Go.Gx.Hp.name {w0 w : Go.World} {D : Nat → Prop} {L : List Go.Gx.Ent} (H : Go.Gx.Hp w0 D L w) : ∃ L', L' = L ∧ Go.Gx.Hp w0 D L' w := ⟨L, rfl, H⟩

import Derived.Test.YtjflokgplehfgaaTab
import Derived.Test.YtjflokgplehfgaaGxOld
set_option linter.unusedVariables false
set_option linter.unusedSimpArgs false
namespace Go.Gx.Ans
open Go.Gx
def EvRow (w0 : World) (D : Nat → Prop) (x : Option Addr) (l : List Ev) : Prop := ∀ (k : Nat) (c : Ev), l[k]? = some c → ∃ b off, x = some ⟨b, off, none⟩ ∧ Old w0 D b (off + k * 8) c.cells
theorem EvRow.of {w : World} {x : Option Addr} {l : List Ev} (h : OldRow w x (l.map Ev.cells) 8) : EvRow w (fun _ => False) x l := fun k c hc =>
  h.at (i := k) (vs := c.cells) (by rw [List.getElem?_map, hc]; rfl)
def LongP (w0 : World) (D : Nat → Prop) (R : List Ent) (n : Nat) (e : Ending) (w' : World) : Prop := ∃ hb : Bool, e = .returned (.bool hb) ∧ (hb = false → n ≤ 200) ∧ Hp w0 D R w'
end Go.Gx.Ans

import Derived.Test.YtjflokgplehfgaaP
set_option linter.unusedVariables false
set_option linter.unusedSimpArgs false
namespace Go.Gx.Ans
def provesS (s : Sta) (who : Int) : Bool := s.proof.beq (signature s who) || s.proof.beq (instead s)
noncomputable def finalP (s : Sta) : Bool := chkS s && (s.phase == 6 || s.phase == 7)
noncomputable def waitsS (s : Sta) : Bool := chkS s && (s.phase == 1 || s.phase == 2 || s.phase == 5)
def want (s : Sta) (k : Int) : Lt := ⟨k, 0, s.c, if k = 5 then ⟨#[]⟩ else s.text, false⟩
noncomputable def toR (l : Lt) : Int := if lCheck l ≠ 0 then -1 else if l.kind = 1 ∨ l.kind = 2 then Go.RowKit.wrap64 (1 - l.src) else if l.kind = 3 ∨ l.kind = 4 then 2 else -1
/-- a line of the document's table -/
structure Rw where
  ph : Int
  tick : Bool
  kind : Int
  to : Int
  send : Int
def Rw.cells (r : Rw) : List Value := [.int .i64 r.ph, .bool r.tick, .int .i64 r.kind, .int .i64 r.to, .int .i64 r.send]
def tbl : List Rw := [⟨1, false, 1, 2, 1⟩, ⟨1, true, 0, 7, 0⟩, ⟨2, false, 1, 2, 1⟩, ⟨2, false, 2, 6, 2⟩, ⟨5, false, 2, 6, 2⟩, ⟨2, true, 0, 5, 4⟩, ⟨5, true, 0, 5, 4⟩, ⟨5, false, 6, 6, 0⟩, ⟨5, false, 5, 7, 0⟩, ⟨6, false, 2, 6, 2⟩]
def tblC : List Value := tbl.flatMap Rw.cells
end Go.Gx.Ans

/-
  A row of four bytes, made at once. Generic: no program in sight.
-/
import Derived.Test.YtajaloaknfbobaaGxRd
set_option linter.unusedVariables false
set_option linter.unusedSimpArgs false
namespace Go.Gx
section
variable {P : Program} {w0 w : World} {D : Nat → Prop} {L : List Ent} {ops : Array Oper} {Q : Exit → Act → World → Prop} {a : Act} {rest : List Oper}
theorem fill4 (z v0 v1 v2 v3 : Int) : Instr.fill (fun j => some (j * 1, 1)) ((Array.range (4 * 1)).map fun j => (Value.int .u8 z).cells[j % (Value.int .u8 z).cells.size]!) [(0, .int .u8 v0), (1, .int .u8 v1), (2, .int .u8 v2), (3, .int .u8 v3)] = some #[.int .u8 v0, .int .u8 v1, .int .u8 v2, .int .u8 v3] := by
  have hr : Array.range (4 * 1) = #[0, 1, 2, 3] := by decide
  rw [hr]
  simp [Instr.fill, Value.cells]
theorem wl_bytes4 {e : TypeId} {m : Nat} {z v0 v1 v2 v3 : Int} {dst : Option Tmp} {t ty : TypeId} {x0 x1 x2 x3 : Operand} {pos : String} {af : Array Edge} {g : Option (Nat × Bool)}
    (hw : Region.wanted ⟨dst, .buildSlice t 4 #[(0, x0), (1, x1), (2, x2), (3, x3)], ty, pos, af, g⟩ (yielded ops a.tmps) = true)
    (h0 : a.eval x0 = .int .u8 v0) (h1 : a.eval x1 = .int .u8 v1) (h2 : a.eval x2 = .int .u8 v2) (h3 : a.eval x3 = .int .u8 v3) (ht : sI P t = some (e, .int .u8 z, 1, m)) (H : Hp w0 D L w)
    (k : ∀ b w', Hp w0 D (⟨some b, [.int .u8 v0, .int .u8 v1, .int .u8 v2, .int .u8 v3], e, 4⟩ :: L) w' → wpList P ops Q rest (a.put dst (.slice (some ⟨b, 0, none⟩) 4 4)) w') :
    wpList P ops Q (⟨dst, .buildSlice t 4 #[(0, x0), (1, x1), (2, x2), (3, x3)], ty, pos, af, g⟩ :: rest) a w := by
  obtain ⟨hu, i, hi, hz, hs1, hs2, hzs⟩ := sI_spec ht
  have hH := H.alloc #[.int .u8 v0, .int .u8 v1, .int .u8 v2, .int .u8 v3] e [.int .u8 v0, .int .u8 v1, .int .u8 v2, .int .u8 v3] rfl
  refine wl_run (v := .slice (some ⟨w.heap.size, 0, none⟩) 4 4) (w' := w.alloc (.cells #[.int .u8 v0, .int .u8 v1, .int .u8 v2, .int .u8 v3] e)) hw ?_ (k _ _ hH)
  have hf := fill4 z v0 v1 v2 v3
  simp only [Nat.mul_one] at hf
  simp [execOp, Instr.buildSlice, run_underlying hu, sizeOf, typeInfo, zeroValue, hi, hz, h0, h1, h2, h3, hs1, hf, newRow]
end
end Go.Gx

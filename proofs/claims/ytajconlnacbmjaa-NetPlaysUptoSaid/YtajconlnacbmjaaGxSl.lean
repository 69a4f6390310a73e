/-
  Slices of slices, their ends symbolic. Generic: no program in sight.
-/
import Derived.Test.YtajconlnacbmjaaGxHeap
set_option linter.unusedVariables false
set_option linter.unusedSimpArgs false
namespace Go.Gx
section
variable {P : Program} {w : World} {a : Act} {ops : Array Oper} {Q : Exit → Act → World → Prop} {rest : List Oper} {K : Act → World → Prop}
theorem slice_hi {t e : TypeId} {z : Value} {sz by_ : Nat} (ht : sI P t = some (e, z, sz, by_)) (l : Option Nat) (o len cap n : Nat) (k : IntKind) (hn : n ≤ cap) (w : World) :
    (Instr.sliceAt t (.slice (adr l o) len cap) none (some (.int k (n : Int))) none).run P w = .ok (.slice (adr l o) n cap) w := by
  obtain ⟨hu, i, hi, hz, hs, hb, _⟩ := sI_spec ht
  have hel : P.underlying t = some (.slice (P.elem t)) := by
    have : P.elem t = e := by simp [Program.elem, hu]
    rw [this]; exact hu
  have hie : P.elem t = e := by simp [Program.elem, hu]
  rw [run_sliceAt_slice w t _ _ _ _ hel, run_slice_h w t (adr l o) len cap hel k n (by omega) (by omega), hie]
  simp only [sizeOf, typeInfo, Sem.run_bind, hi]
  cases l with
  | none => simp [sliced, hi]
  | some b => simp [sliced, hi, add_plain]
theorem slice_lo {t e : TypeId} {z : Value} {sz by_ : Nat} (ht : sI P t = some (e, z, sz, by_)) (l : Option Nat) (len cap n : Nat) (k : IntKind) (hn : n ≤ len) (hc : n < cap) (w : World) :
    (Instr.sliceAt t (.slice (adr l 0) len cap) (some (.int k (n : Int))) none none).run P w = .ok (.slice (adr l (n * sz)) (len - n) (cap - n)) w := by
  obtain ⟨hu, i, hi, hz, hs, hb, _⟩ := sI_spec ht
  have hel : P.underlying t = some (.slice (P.elem t)) := by
    have : P.elem t = e := by simp [Program.elem, hu]
    rw [this]; exact hu
  have hie : P.elem t = e := by simp [Program.elem, hu]
  rw [run_sliceAt_slice w t _ _ _ _ hel, run_slice_l w t (adr l 0) len cap hel k n (by omega) (by omega), hie]
  simp only [sizeOf, typeInfo, Sem.run_bind, hi]
  have hne : ¬ cap = n := by omega
  cases l with
  | none => simp [sliced, hi]
  | some b => simp [sliced, hi, add_plain, hne, hs]
theorem oSl {t ty : TypeId} {v : Value} {dst : Option Tmp} {x : Operand} {lo hi mx : Option Operand} {pos : String} {af : Array Edge} {g : Option (Nat × Bool)}
    (hr : ∀ w, (Instr.sliceAt t (a.eval x) (lo.map a.eval) (hi.map a.eval) (mx.map a.eval)).run P w = .ok v w) (k : K (a.put dst v) w) : Oper.wp P ⟨dst, .slice t x lo hi mx, ty, pos, af, g⟩ a w K Q :=
  wp_run (by simp only [execOp, Sem.run_bind, hr, Sem.run_pure, Result.andThen_ok]) k
theorem wl_sl {t ty : TypeId} {v : Value} {dst : Option Tmp} {x : Operand} {lo hi mx : Option Operand} {pos : String} {af : Array Edge} {g : Option (Nat × Bool)}
    (hw : Region.wanted ⟨dst, .slice t x lo hi mx, ty, pos, af, g⟩ (yielded ops a.tmps) = true) (hr : ∀ w, (Instr.sliceAt t (a.eval x) (lo.map a.eval) (hi.map a.eval) (mx.map a.eval)).run P w = .ok v w)
    (k : wpList P ops Q rest (a.put dst v) w) : wpList P ops Q (⟨dst, .slice t x lo hi mx, ty, pos, af, g⟩ :: rest) a w :=
  wl_run hw (by simp only [execOp, Sem.run_bind, hr, Sem.run_pure, Result.andThen_ok]) k
theorem gSl {t ty : TypeId} {dst : Option Tmp} {x : Operand} {lo hi mx : Option Operand} {pos : String} {af : Array Edge} {g : Option (Nat × Bool)} (k : wpList P ops Q (⟨dst, .slice t x lo hi mx, ty, pos, af, g⟩ :: rest) a w) :
    wpList P ops Q (⟨dst, .slice t x lo hi mx, ty, pos, af, g⟩ :: rest) a w := k
end
end Go.Gx

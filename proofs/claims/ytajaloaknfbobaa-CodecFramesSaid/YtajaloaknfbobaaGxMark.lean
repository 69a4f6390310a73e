/-
  A row that is marked as a text's: it lies outside what may turn, and can be read. Generic: no program in sight.
-/
import Derived.Test.YtajaloaknfbobaaGxMp
import Derived.Test.YtajaloaknfbobaaGxRd
import Derived.Lib.SlBytesConst
set_option linter.unusedVariables false
set_option linter.unusedSimpArgs false
namespace Go.Gx
open Go.MapKept
section
variable {P : Program} {w0 w : World} {D : Nat → Prop} {L : List Ent}
theorem Hp.marked (H : Hp w0 D L w) (C : Array Value) (e : TypeId) (m : Nat × Nat) :
    ∃ w1 D1, (∀ L' u, Hp w1 D1 L' u → Hp w0 D L' u) ∧ Hp w1 D1 L (w.alloc (.cells C e m)) ∧ Old w1 D1 w.heap.size 0 C.toList := by
  have hlt : ∀ (i : Nat) (x : Ent) (b : Nat), L[i]? = some x → x.a = some b → b < w.heap.size := fun i x b hi ha => H.lt hi ha
  have ea : ∀ b, b < w.heap.size → (w.alloc (.cells C e m)).heap[b]? = w.heap[b]? := fun b hb => (heap_alloc w _).2 b hb
  have es : (w.alloc (.cells C e m)).heap.size = w.heap.size + 1 := by show (w.heap.push _).size = _; simp
  have X : Exm w0 D (w.alloc (.cells C e m)) (fun b => b ≠ w.heap.size ∧ (D b ∨ w0.heap.size ≤ b)) := by
    refine ⟨H.os, H.tape, H.output, ?_, ?_⟩
    · rw [es]; have := H.size; omega
    · intro b hb hE
      have := H.size
      refine ⟨fun hh => ?_, ?_⟩
      · rcases hh.2 with h3 | h3
        · exact hE h3
        · omega
      · rw [ea b (by omega), H.frame b (by omega) hE]
  refine ⟨w.alloc (.cells C e m), fun b => b ≠ w.heap.size ∧ (D b ∨ w0.heap.size ≤ b), fun L' u hu => X.hp hu, ⟨rfl, rfl, rfl, Nat.le_refl _, fun _ _ _ => rfl, ?_, ?_, H.apart⟩, ?_⟩
  · intro i x hi
    exact Ent.at_of_heap (H.ents i x hi) fun b hb => ea b (hlt i x b hi hb)
  · intro i x b hi ha
    have := hlt i x b hi ha
    exact .inl ⟨by omega, H.mine i x b hi ha⟩
  · refine ⟨fun hh => hh.1 rfl, by rw [es]; omega, fun j v hj => ?_⟩
    have hb := (heap_alloc w (.cells C e m)).1
    simp only [World.cell?, hb, Nat.zero_add]
    simpa using hj
end
end Go.Gx

/-
  make of a slice of one-cell elements, and bytes read as a text, over Hp. Generic: no program in sight.
-/
import Derived.Test.YtebecelhcpljaaaGxHeap
import Derived.Deep.OwnRows
import Derived.Laws.IdiomStrings
set_option linter.unusedVariables false
set_option linter.unusedSimpArgs false
namespace Go.Gx
theorem made_list (z : Value) (n : Nat) : (madeCells #[z] n).toList = List.replicate n z := by
  apply List.ext_getElem?
  intro i
  rw [Array.getElem?_toList]
  by_cases h : i < n
  · have h1 : (madeCells #[z] n)[i]? = some z := by simp [madeCells, h, Nat.mod_one]
    rw [h1, List.getElem?_replicate, if_pos h]
  · rw [List.getElem?_replicate, if_neg h, Array.getElem?_eq_none (by rw [size_madeCells]; omega)]
section
variable {P : Program} {w0 w : World} {D : Nat → Prop} {L : List Ent} {ops : Array Oper} {Q : Exit → Act → World → Prop} {a : Act} {rest : List Oper} {K : Act → World → Prop}
theorem Hp.make (H : Hp w0 D L w) {t e : TypeId} {z : Value} {m n : Nat} {kl kc : IntKind} (ht : sI P t = some (e, z, 1, m)) (hz1 : z.cells = #[z]) (hb : m * n ≤ 281474976710656) (h63 : n ≤ 9223372036854775807) :
    ∃ b w', (Instr.makeSlice t (.int kl (n : Int)) (.int kc (n : Int))).run P w = .ok (.slice (some ⟨b, 0, none⟩) n n) w' ∧ Hp w0 D (⟨some b, List.replicate n z, e, n⟩ :: L) w' := by
  obtain ⟨hu, i, hi, hz, hs, rfl, _⟩ := sI_spec ht
  refine ⟨w.heap.size, w.alloc (.cells (madeCells #[z] n) e), run_make_row t e i z hu hi hz hs hz1 kl kc n hb h63 w, ?_⟩
  have := H.alloc (madeCells #[z] n) e (List.replicate n z) (by rw [made_list, List.length_replicate, List.take_of_length_le (by simp)])
  rwa [size_madeCells] at this
theorem wl_make {t e ty : TypeId} {z : Value} {m n : Nat} {kl kc : IntKind} {dst : Option Tmp} {l c : Operand} {pos : String} {af : Array Edge} {g : Option (Nat × Bool)}
    (hw : Region.wanted ⟨dst, .makeSlice t l c, ty, pos, af, g⟩ (yielded ops a.tmps) = true) (hl : a.eval l = .int kl (n : Int)) (hc : a.eval c = .int kc (n : Int)) (H : Hp w0 D L w)
    (ht : sI P t = some (e, z, 1, m)) (hz1 : z.cells = #[z]) (hb : m * n ≤ 281474976710656) (h63 : n ≤ 9223372036854775807)
    (k : ∀ b w', Hp w0 D (⟨some b, List.replicate n z, e, n⟩ :: L) w' → wpList P ops Q rest (a.put dst (.slice (some ⟨b, 0, none⟩) n n)) w') : wpList P ops Q (⟨dst, .makeSlice t l c, ty, pos, af, g⟩ :: rest) a w := by
  obtain ⟨b, w', hr, H'⟩ := H.make (kl := kl) (kc := kc) ht hz1 hb h63
  exact wl_run hw (by simp only [execOp, hl, hc, hr, Sem.run_bind, Sem.run_pure, Result.andThen_ok]) (k b w' H')
theorem oMk {t e ty : TypeId} {z : Value} {m n : Nat} {kl kc : IntKind} {dst : Option Tmp} {l c : Operand} {pos : String} {af : Array Edge} {g : Option (Nat × Bool)}
    (hl : a.eval l = .int kl (n : Int)) (hc : a.eval c = .int kc (n : Int)) (H : Hp w0 D L w)
    (ht : sI P t = some (e, z, 1, m)) (hz1 : z.cells = #[z]) (hb : m * n ≤ 281474976710656) (h63 : n ≤ 9223372036854775807)
    (k : ∀ b w', Hp w0 D (⟨some b, List.replicate n z, e, n⟩ :: L) w' → K (a.put dst (.slice (some ⟨b, 0, none⟩) n n)) w') : Oper.wp P ⟨dst, .makeSlice t l c, ty, pos, af, g⟩ a w K Q := by
  obtain ⟨b, w', hr, H'⟩ := H.make (kl := kl) (kc := kc) ht hz1 hb h63
  exact wp_run (by simp only [execOp, hl, hc, hr, Sem.run_bind, Sem.run_pure, Result.andThen_ok]) (k b w' H')
theorem oBxA {vs : List Value} {n : Nat} {dst : Option Tmp} {t ty : TypeId} {va : Operand} {pos : String} {af : Array Edge} {g : Option (Nat × Bool)}
    (hy : a.eval va = .agg vs.toArray) (hn : vs.length = n) (H : Hp w0 D L w)
    (k : ∀ b w', Hp w0 D (⟨some b, vs, t, n⟩ :: L) w' → K (a.put dst (.pointer (some ⟨b, 0, none⟩))) w') : Oper.wp P ⟨dst, .box t va, ty, pos, af, g⟩ a w K Q := by
  subst hn
  refine wp_run (v := .pointer (some ⟨w.heap.size, 0, none⟩)) (w' := w.alloc (.cells vs.toArray t)) ?_ (k _ _ (H.alloc vs.toArray t vs (List.take_of_length_le (Nat.le_refl _))))
  simp only [execOp, hy, Instr.box, newVar, newRow, newObj, Sem.run_bind, Sem.run_pure, Result.andThen_ok]
  rfl
theorem gMk {dst : Option Tmp} {t ty : TypeId} {l c : Operand} {pos : String} {af : Array Edge} {g : Option (Nat × Bool)} (k : wpList P ops Q (⟨dst, .makeSlice t l c, ty, pos, af, g⟩ :: rest) a w) : wpList P ops Q (⟨dst, .makeSlice t l c, ty, pos, af, g⟩ :: rest) a w := k
theorem gCv {dst : Option Tmp} {t u ty : TypeId} {x : Operand} {pos : String} {af : Array Edge} {g : Option (Nat × Bool)} (k : wpList P ops Q (⟨dst, .convert t u x, ty, pos, af, g⟩ :: rest) a w) : wpList P ops Q (⟨dst, .convert t u x, ty, pos, af, g⟩ :: rest) a w := k
def byteV (b : UInt8) : Value := .int .u8 (b.toNat : Int)
theorem Hp.text (H : Hp w0 D L w) {i b o c : Nat} {x : Ent} {src dst e : TypeId} {l : List UInt8} (hs : P.underlying src = some (.slice e)) (he : P.underlying e = some (.int .u8)) (hd : P.underlying dst = some .string)
    (hi : L[i]? = some x) (hb : x.a = some b) (hv : (x.xs.drop o).take l.length = l.map byteV) :
    (convert src dst (.slice (some ⟨b, o, none⟩) l.length c)).run P w = .ok (.string ⟨l.toArray⟩) w := by
  refine run_convert_bytes_back w src dst e ⟨b, o, none⟩ c l hs he hd fun j hj => ?_
  refine H.cells (o := o) (n := l.length) hi hb j _ ?_
  rw [hv]; simp [List.getElem?_eq_getElem hj, byteV]
theorem run_b2s (i : Nat) {b o c : Nat} {x : Ent} {src ds e ty : TypeId} {l : List UInt8} {dst : Option Tmp} {va : Operand} {pos : String} {af : Array Edge} {g : Option (Nat × Bool)} (H : Hp w0 D L w) (hx : a.eval va = .slice (some ⟨b, o, none⟩) l.length c)
    (hs : P.underlying src = some (.slice e)) (he : P.underlying e = some (.int .u8)) (hd : P.underlying ds = some .string) (hi : L[i]? = some x) (hb : x.a = some b) (hv : (x.xs.drop o).take l.length = l.map byteV) :
    (execOp a.eval ⟨dst, .convert src ds va, ty, pos, af, g⟩).run P w = .ok (.value (.string ⟨l.toArray⟩)) w := by
  simp only [execOp, hx, Sem.run_bind, Sem.run_pure, Result.andThen_ok, H.text hs he hd hi hb hv]
end
end Go.Gx

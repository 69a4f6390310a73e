/-
  A slice made of several structs at once, by itself. Generic: no program in sight.
-/
import Derived.Test.YtjflokgplehfgaaGxOrd
set_option linter.unusedVariables false
set_option linter.unusedSimpArgs false
namespace Go.Gx
theorem foldl_off (l base : Array Value) (off : Nat) (h : off + l.size ≤ base.size) :
    (l.zipIdx.foldl (fun cs (p : Value × Nat) => cs.setIfInBounds (off + p.2) p.1) base).toList = base.toList.take off ++ l.toList ++ base.toList.drop (off + l.size) := by
  rw [← Array.foldl_toList, Array.toList_zipIdx]
  have h1 := foldl_set l.toList off base (by simpa using h)
  have e : ∀ (m : List Value) (k : Nat) (b : Array Value), (m.zipIdx k).foldl (fun cs (p : Value × Nat) => cs.setIfInBounds (off + p.2) p.1) b = (m.zipIdx (off + k)).foldl (fun cs (p : Value × Nat) => cs.setIfInBounds p.2 p.1) b := by
    intro m
    induction m with
    | nil => intro k b; rfl
    | cons v m ih => intro k b; simp only [List.zipIdx_cons, List.foldl_cons]; rw [ih (k + 1)]; rfl
  rw [e, Nat.add_zero, h1]
  simp
theorem fill_row (sz : Nat) : ∀ (cs : List (List Value)) (k : Nat) (base : Array Value), (∀ c ∈ cs, c.length = sz) → base.size = (k + cs.length) * sz →
    Instr.fill (fun j => some (j * sz, sz)) base ((cs.zipIdx k).map fun p => (p.2, Value.agg p.1.toArray)) = some ((base.toList.take (k * sz) ++ cs.flatten).toArray)
  | [], k, base, _, hb => by
    simp only [List.zipIdx_nil, List.map_nil, Instr.fill, List.flatten_nil, List.append_nil]
    rw [List.take_of_length_le (by simp at hb ⊢; omega)]
  | c :: cs, k, base, hc, hb => by
    have h0 : c.length = sz := hc c (by simp)
    have hb2 : base.size = k * sz + sz + cs.length * sz := by
      rw [hb]
      simp only [List.length_cons]
      rw [show k + (cs.length + 1) = k + 1 + cs.length by omega, Nat.add_mul, Nat.add_mul, Nat.one_mul]
    have hle : k * sz + c.length ≤ base.size := by omega
    simp only [List.zipIdx_cons, List.map_cons]
    unfold Instr.fill
    have hcs : (Value.agg c.toArray).cells = c.toArray := rfl
    simp only [hcs, List.size_toArray, h0]
    rw [if_neg (by simp; omega)]
    have hf := foldl_off c.toArray base (k * sz) (by simpa [h0] using by omega)
    have hsz : (c.toArray.zipIdx.foldl (fun cs (p : Value × Nat) => cs.setIfInBounds (k * sz + p.2) p.1) base).size = base.size := by
      rw [← Array.length_toList, hf]
      simp [h0]
      omega
    rw [fill_row sz cs (k + 1) _ (fun d hd => hc d (by simp [hd])) (by rw [hsz, hb]; simp only [List.length_cons]; congr 1; omega)]
    rw [hf]
    congr 2
    rw [List.take_append_of_le_length (by simp [h0]; rw [Nat.add_mul, Nat.one_mul]; omega), List.take_of_length_le (by simp [h0]; rw [Nat.add_mul, Nat.one_mul]; omega)]
    simp [List.flatten_cons, List.append_assoc]
theorem oBs5 {P : Program} {w0 w : World} {D : Nat → Prop} {L : List Ent} {a : Act} {Q : Exit → Act → World → Prop} {K : Act → World → Prop} {e : TypeId} {z : Value} {n m : Nat} {c0 c1 c2 c3 c4 : List Value} {dst : Option Tmp} {t ty : TypeId} {x0 x1 x2 x3 x4 : Operand} {pos : String} {af : Array Edge} {g : Option (Nat × Bool)}
    (h0 : a.eval x0 = .agg c0.toArray) (h1 : a.eval x1 = .agg c1.toArray) (h2 : a.eval x2 = .agg c2.toArray) (h3 : a.eval x3 = .agg c3.toArray) (h4 : a.eval x4 = .agg c4.toArray)
    (ht : sI P t = some (e, z, n, m)) (hn : c0.length = n ∧ c1.length = n ∧ c2.length = n ∧ c3.length = n ∧ c4.length = n) (hn0 : 0 < n) (hn1 : n ≤ 1000) (H : Hp w0 D L w)
    (k : ∀ b w', Hp w0 D (⟨some b, c0 ++ (c1 ++ (c2 ++ (c3 ++ c4))), e, 5 * n⟩ :: L) w' → K (a.put dst (.slice (some ⟨b, 0, none⟩) 5 5)) w') :
    Oper.wp P ⟨dst, .buildSlice t 5 #[(0, x0), (1, x1), (2, x2), (3, x3), (4, x4)], ty, pos, af, g⟩ a w K Q := by
  obtain ⟨hu, i, hi, hz, rfl, rfl, hzs⟩ := sI_spec ht
  obtain ⟨n0, n1, n2, n3, n4⟩ := hn
  have hH := H.alloc (c0 ++ (c1 ++ (c2 ++ (c3 ++ c4)))).toArray e (c0 ++ (c1 ++ (c2 ++ (c3 ++ c4)))) (List.take_of_length_le (Nat.le_refl _))
  have hsz : (c0 ++ (c1 ++ (c2 ++ (c3 ++ c4)))).toArray.size = 5 * i.size := by simp [n0, n1, n2, n3, n4]; omega
  rw [hsz] at hH
  refine wp_run (v := .slice (some ⟨w.heap.size, 0, none⟩) 5 5) (w' := w.alloc (.cells (c0 ++ (c1 ++ (c2 ++ (c3 ++ c4)))).toArray e)) ?_ (k _ _ hH)
  have hbig : ¬ (2 ^ 24 < 5 * i.size) := by omega
  have hne : ¬ 5 * i.size = 0 := by omega
  have hfill := fill_row i.size [c0, c1, c2, c3, c4] 0 ((Array.range (5 * i.size)).map fun j => z.cells[j % z.cells.size]!) (by
    intro c hc
    simp only [List.mem_cons, List.not_mem_nil, or_false] at hc
    rcases hc with rfl | rfl | rfl | rfl | rfl <;> assumption) (by simp)
  simp only [List.zipIdx_cons, List.zipIdx_nil, List.map_cons, List.map_nil, Nat.zero_mul, List.take_zero, List.nil_append, List.flatten_cons, List.flatten_nil, List.append_nil, Nat.zero_add, Nat.reduceAdd] at hfill
  simp [execOp, Instr.buildSlice, run_underlying hu, sizeOf, typeInfo, zeroValue, hi, hz, h0, h1, h2, h3, h4, hbig, hne, hfill, newRow]
end Go.Gx

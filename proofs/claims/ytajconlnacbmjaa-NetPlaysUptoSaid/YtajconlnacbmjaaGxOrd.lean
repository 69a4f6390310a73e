/-
  A region whose effects stand in no order, each order walked: the steps of Gx.RegionS for a region whose operations stand as a list. Where a region of a given function stands. Generic: no program in sight.
-/
import Derived.Test.YtajconlnacbmjaaGxRegionS
set_option linter.unusedVariables false
set_option linter.unusedSimpArgs false
namespace Go.Gx
/-- the operations of the region with this number -/
def findR (n : Nat) : Code → Option (Array Oper)
  | .region id ops _ => if id = n then some ops else none
  | .seq a b => match findR n a with | some x => some x | none => findR n b
  | .cond _ a b => match findR n a with | some x => some x | none => findR n b
  | .block _ b => findR n b
  | .loop b => findR n b
  | .scope b => findR n b
  | _ => none
def regOf (f : Func) (n : Nat) : Array Oper := match f.body with | some c => (match findR n c with | some x => x | none => #[]) | none => #[]
section
variable {P : Program} {l : List Oper} {Q : Exit → Act → World → Prop} {S : World → Prop} {fuel : Nat} {listed : Array Bool} {a : Act} {w : World}
theorem bTakeL (i : Nat) {o : Oper} {v : Value} (hi : l[i]? = some o) (hf : (Region.noSelect l.toArray && Region.free .any l.toArray listed i && (Region.ready .any l.toArray listed).contains i) = true)
    (hS : S w) (hw : Region.wanted o (yielded l.toArray a.tmps) = true) (hv : ∀ u, S u → (execOp a.eval o).run P u = .ok (.value v) u)
    (h : wpAnyH P .any l.toArray (NQ Q) S fuel (listed.setIfInBounds i true) (a.put o.dst v) w) : wpAnyH P .any l.toArray (NQ Q) S (fuel + 1) listed a w :=
  bTake i (by simpa using hi) hf hS hw hv h
theorem bTakeSkipL (i : Nat) {o : Oper} (hi : l[i]? = some o) (hf : (Region.noSelect l.toArray && Region.free .any l.toArray listed i && (Region.ready .any l.toArray listed).contains i) = true)
    (hS : S w) (hw : Region.wanted o (yielded l.toArray a.tmps) = false)
    (h : wpAnyH P .any l.toArray (NQ Q) S fuel (listed.setIfInBounds i true) (a.put o.dst undef) w) : wpAnyH P .any l.toArray (NQ Q) S (fuel + 1) listed a w :=
  bTakeSkip i (by simpa using hi) hf hS hw h
theorem bOneL (i : Nat) {o : Oper} (hr : Region.ready .any l.toArray listed = [i]) (hi : l[i]? = some o) (hw : Region.wanted o (yielded l.toArray a.tmps) = true)
    (h : ∀ K : Act → World → Prop, (∀ a w, S w → wpAnyH P .any l.toArray (NQ Q) S fuel (listed.setIfInBounds i true) a w → K a w) → o.wp P a w K (NQ Q)) : wpAnyH P .any l.toArray (NQ Q) S (fuel + 1) listed a w :=
  bOne i hr (by simpa using hi) hw h
theorem bTwoL (i j : Nat) {o o' : Oper} (hr : Region.ready .any l.toArray listed = [i, j]) (hi : l[i]? = some o) (hj : l[j]? = some o') (hw : Region.wanted o (yielded l.toArray a.tmps) = true) (hw' : Region.wanted o' (yielded l.toArray a.tmps) = true)
    (h : ∀ K : Act → World → Prop, (∀ a w, S w → wpAnyH P .any l.toArray (NQ Q) S fuel (listed.setIfInBounds i true) a w → K a w) → o.wp P a w K (NQ Q))
    (h' : ∀ K : Act → World → Prop, (∀ a w, S w → wpAnyH P .any l.toArray (NQ Q) S fuel (listed.setIfInBounds j true) a w → K a w) → o'.wp P a w K (NQ Q)) : wpAnyH P .any l.toArray (NQ Q) S (fuel + 1) listed a w :=
  bTwo i j hr (by simpa using hi) (by simpa using hj) hw hw' h h'
theorem bThreeL (i j k : Nat) {o o' o'' : Oper} (hr : Region.ready .any l.toArray listed = [i, j, k]) (hi : l[i]? = some o) (hj : l[j]? = some o') (hk : l[k]? = some o'') (hw : Region.wanted o (yielded l.toArray a.tmps) = true) (hw' : Region.wanted o' (yielded l.toArray a.tmps) = true) (hw'' : Region.wanted o'' (yielded l.toArray a.tmps) = true)
    (h : ∀ K : Act → World → Prop, (∀ a w, S w → wpAnyH P .any l.toArray (NQ Q) S fuel (listed.setIfInBounds i true) a w → K a w) → o.wp P a w K (NQ Q))
    (h' : ∀ K : Act → World → Prop, (∀ a w, S w → wpAnyH P .any l.toArray (NQ Q) S fuel (listed.setIfInBounds j true) a w → K a w) → o'.wp P a w K (NQ Q))
    (h'' : ∀ K : Act → World → Prop, (∀ a w, S w → wpAnyH P .any l.toArray (NQ Q) S fuel (listed.setIfInBounds k true) a w → K a w) → o''.wp P a w K (NQ Q)) : wpAnyH P .any l.toArray (NQ Q) S (fuel + 1) listed a w := by
  refine wpAnyH_all hr (by simp) fun m hm => ?_
  have : m = i ∨ m = j ∨ m = k := by simpa using hm
  have hi' : l.toArray[i]? = some o := by simpa using hi
  have hj' : l.toArray[j]? = some o' := by simpa using hj
  have hk' : l.toArray[k]? = some o'' := by simpa using hk
  rcases this with rfl | rfl | rfl
  · unfold wpOp
    simp only [hi', hw, if_true]
    exact .inl (h _ fun a w h1 h2 => ⟨h1, h2⟩)
  · unfold wpOp
    simp only [hj', hw', if_true]
    exact .inl (h' _ fun a w h1 h2 => ⟨h1, h2⟩)
  · unfold wpOp
    simp only [hk', hw'', if_true]
    exact .inl (h'' _ fun a w h1 h2 => ⟨h1, h2⟩)
/-- a slice of one, by itself -/
theorem oBs1 {Q' : Exit → Act → World → Prop} {K : Act → World → Prop} {w0 : World} {D : Nat → Prop} {L : List Ent} {e : TypeId} {z : Value} {n m : Nat} {v : Value} {dst : Option Tmp} {t ty : TypeId} {x : Operand} {pos : String} {af : Array Edge} {g : Option (Nat × Bool)}
    (hx : a.eval x = v) (ht : sI P t = some (e, z, n, m)) (hn : v.cells.size = n) (hn0 : 0 < n) (hn1 : n ≤ 1000) (H : Hp w0 D L w)
    (k : ∀ b w', Hp w0 D (⟨some b, v.cells.toList, e, n⟩ :: L) w' → K (a.put dst (.slice (some ⟨b, 0, none⟩) 1 1)) w') : Oper.wp P ⟨dst, .buildSlice t 1 #[(0, x)], ty, pos, af, g⟩ a w K Q' := by
  obtain ⟨hu, i, hi, hz, rfl, rfl, hzs⟩ := sI_spec ht
  have hH := H.alloc v.cells e v.cells.toList (List.take_of_length_le (Nat.le_refl _))
  rw [hn] at hH
  refine wp_run (v := .slice (some ⟨w.heap.size, 0, none⟩) 1 1) (w' := w.alloc (.cells v.cells e)) ?_ (k _ _ hH)
  have hbig : ¬ (2 ^ 24 < i.size) := by omega
  have hne : ¬ i.size = 0 := by omega
  have hfill : Instr.fill (fun j => some (j * i.size, i.size)) ((Array.range (1 * i.size)).map fun j => z.cells[j % z.cells.size]!) [(0, v)] = some v.cells := by
    simp only [Instr.fill, Nat.zero_mul, hn]
    rw [if_neg (by simp)]
    congr 1
    exact foldl_set_all v.cells _ (by simp [hn])
  simp only [Nat.one_mul] at hfill
  simp [execOp, Instr.buildSlice, run_underlying hu, sizeOf, typeInfo, zeroValue, hi, hz, hx, hbig, hne, hfill, newRow]
end
end Go.Gx

/-
  A drawn region that calls yield, walked at the wide fence: each order of its effects. Generic: no program in sight.
-/
import Derived.Test.YtgnmjeajmnmobaaGxRfIn
import Derived.OrdersIn
set_option linter.unusedVariables false
set_option linter.unusedSimpArgs false
namespace Go.Gx
open Go.RowKit
section
variable {P : Program} {l : List Oper} {Q : Exit → Act → World → Prop} {fuel : Nat} {listed : Array Bool} {a : Act} {w : World} {K : Act → World → Prop}
abbrev anyC (P : Program) (l : List Oper) (Q : Exit → Act → World → Prop) (fuel : Nat) (listed : Array Bool) (a : Act) (w : World) : Prop := wpAnyIn Fence.wide 0 P .any l.toArray (NQ Q) fuel listed a w
theorem wpC_region {id : Nat} (hm : P.follows .mixedOrders = true) (h : anyC P l Q l.toArray.size (Array.replicate l.toArray.size false) a w.drew) : (Code.region id l.toArray true).wpIn Fence.wide 0 P Q a w :=
  Go.wpIn_mono (Q := NQ Q) (wpIn_region_any hm h) (fun e a w hq => by cases e <;> first | exact hq | exact hq.elim)
theorem cTake (i : Nat) {o : Oper} {v : Value} (hi : l[i]? = some o) (hf : (Region.noSelect l.toArray && Region.free .any l.toArray listed i && (Region.ready .any l.toArray listed).contains i) = true)
    (hw : Region.wanted o (yielded l.toArray a.tmps) = true) (hv : ∀ u, (execOp a.eval o).run P u = .ok (.value v) u) (ha : ∀ u, o.about P u a.eval = none)
    (h : anyC P l Q fuel (listed.setIfInBounds i true) (a.put o.dst v) w) : anyC P l Q (fuel + 1) listed a w := by
  simp only [Bool.and_eq_true] at hf
  exact wpAnyIn_take rfl (by simpa using hi) hf.1.1 hf.1.2 hf.2 (fun c a w h => h.elim) ⟨.inl ⟨hw, hv⟩, ha⟩ h
theorem cSkip (i : Nat) {o : Oper} (hi : l[i]? = some o) (hf : (Region.noSelect l.toArray && Region.free .any l.toArray listed i && (Region.ready .any l.toArray listed).contains i) = true)
    (hw : Region.wanted o (yielded l.toArray a.tmps) = false) (ha : ∀ u, o.about P u a.eval = none)
    (h : anyC P l Q fuel (listed.setIfInBounds i true) (a.put o.dst undef) w) : anyC P l Q (fuel + 1) listed a w := by
  simp only [Bool.and_eq_true] at hf
  exact wpAnyIn_take rfl (by simpa using hi) hf.1.1 hf.1.2 hf.2 (fun c a w h => h.elim) ⟨.inr ⟨hw, rfl⟩, ha⟩ h
theorem cOne (i : Nat) {o : Oper} (hr : Region.ready .any l.toArray listed = [i]) (hi : l[i]? = some o) (hw : Region.wanted o (yielded l.toArray a.tmps) = true)
    (h : o.wpIn Fence.wide 0 P a w (anyC P l Q fuel (listed.setIfInBounds i true)) (NQ Q)) : anyC P l Q (fuel + 1) listed a w := by
  refine wpAnyIn_all hr (by simp) fun j hj => ?_
  obtain rfl : j = i := by simpa using hj
  have hi' : l.toArray[j]? = some o := by simpa using hi
  unfold wpOpIn
  simp only [hi', hw, if_true]
  exact h
theorem cSkip1 (i : Nat) {o : Oper} (hr : Region.ready .any l.toArray listed = [i]) (hi : l[i]? = some o) (hw : Region.wanted o (yielded l.toArray a.tmps) = false)
    (h : anyC P l Q fuel (listed.setIfInBounds i true) (a.put o.dst undef) w) : anyC P l Q (fuel + 1) listed a w := by
  refine wpAnyIn_all hr (by simp) fun j hj => ?_
  obtain rfl : j = i := by simpa using hj
  have hi' : l.toArray[j]? = some o := by simpa using hi
  unfold wpOpIn
  simp only [hi', hw]
  exact ⟨fun _ _ => trivial, h⟩
theorem cTwo (i j : Nat) {o o' : Oper} (hr : Region.ready .any l.toArray listed = [i, j]) (hi : l[i]? = some o) (hj : l[j]? = some o') (hw : Region.wanted o (yielded l.toArray a.tmps) = true) (hw' : Region.wanted o' (yielded l.toArray a.tmps) = true)
    (h : o.wpIn Fence.wide 0 P a w (anyC P l Q fuel (listed.setIfInBounds i true)) (NQ Q)) (h' : o'.wpIn Fence.wide 0 P a w (anyC P l Q fuel (listed.setIfInBounds j true)) (NQ Q)) : anyC P l Q (fuel + 1) listed a w := by
  refine wpAnyIn_all hr (by simp) fun k hk => ?_
  have : k = i ∨ k = j := by simpa using hk
  have hi' : l.toArray[i]? = some o := by simpa using hi
  have hj' : l.toArray[j]? = some o' := by simpa using hj
  rcases this with rfl | rfl
  · unfold wpOpIn
    simp only [hi', hw, if_true]
    exact h
  · unfold wpOpIn
    simp only [hj', hw', if_true]
    exact h'
theorem cDone (hr : Region.ready .any l.toArray listed = []) (h : Q .normal a w) : anyC P l Q fuel listed a w := wpAnyIn_done (Q := NQ Q) hr h fuel
theorem c_run {o : Oper} {v : Value} {w' : World} (hr : (execOp a.eval o).run P w = .ok (.value v) w') (k : K (a.put o.dst v) w') : o.wpIn Fence.wide 0 P a w K (NQ Q) := by
  refine ⟨fun _ _ => trivial, ?_⟩
  show o.uponIn _ _ _ _ _ _ ((execOp a.eval o).run P w)
  rw [hr]; exact k
theorem c_call {o : Oper} {f : FuncId} {args : Array Value} {R : Ending → World → Prop} (hr : (execOp a.eval o).run P w = .ok (.enter f args) w) (h : CallsIn Fence.wide 0 P f args w R)
    (k : ∀ e w', R e w' → ∃ v, e = .returned v ∧ K (a.put o.dst v) w') : o.wpIn Fence.wide 0 P a w K (NQ Q) := by
  refine ⟨fun _ _ => trivial, ?_⟩
  show o.uponIn _ _ _ _ _ _ ((execOp a.eval o).run P w)
  rw [hr]
  refine ⟨fun h => by simp [Fence.wide] at h, (h.mono fun e w' hR => ?_)⟩
  obtain ⟨v, rfl, hk⟩ := k e w' hR
  exact hk
theorem c_round {o : Oper} {r : Nat} {fn : FuncId} {tmps : Array Value} {assign body : Code} {R : Ending → World → Prop} (hr : (execOp a.eval o).run P w = .ok (.round r fn tmps assign body) w) (h : RoundIn Fence.wide 0 P r fn tmps assign body w R)
    (k : ∀ e w', R e w' → ∃ v, e = .returned v ∧ K (a.put o.dst v) w') : o.wpIn Fence.wide 0 P a w K (NQ Q) := by
  refine ⟨fun _ _ => trivial, ?_⟩
  show o.uponIn _ _ _ _ _ _ ((execOp a.eval o).run P w)
  rw [hr]
  refine ⟨fun h => by simp [Fence.wide] at h, (h.mono fun e w' hR => ?_)⟩
  obtain ⟨v, rfl, hk⟩ := k e w' hR
  exact hk
end
end Go.Gx

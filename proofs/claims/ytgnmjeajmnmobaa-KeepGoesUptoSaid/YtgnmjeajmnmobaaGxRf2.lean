/-
  Two ranges over functions in one function, one behind the other: the marks of both; the way out. Generic: no program in sight.
-/
import Derived.Test.YtgnmjeajmnmobaaGxRfIn
import Derived.LoopN
import Derived.LoopNIn
set_option linter.unusedVariables false
set_option linter.unusedSimpArgs false
namespace Go.Gx
open Go.RowKit
section
variable {P : Program} {fn : Func} {R : Ending → World → Prop} {a : Act} {w w0 w1 w2 : World} {D D1 D2 : Nat → Prop} {L : List Ent}
theorem Mark.keep {k : Nat} (h : Mark w0 w1 D1 k) (X : Exm w1 D1 w2 D2) : Mark w0 w2 D2 k := by
  have h1 := X.keep k h.2.2.1 h.1
  exact ⟨h1.1, h.2.1, Nat.lt_of_lt_of_le h.2.2.1 X.size, h1.2.trans h.2.2.2⟩
/-- the way out: two marks -/
theorem leave2 {k1 k2 : Nat} {v : Value} (hne : k1 ≠ k2) (hm1 : Mark w0 w2 D2 k1) (hm2 : Mark w1 w2 D2 k2) (H : Hp w2 D2 L w) (hd : a.defers = [{ target := .collected k2, args := #[] }, { target := .collected k1, args := #[] }])
    (hres : (results fn a.tmps).run P ((w.putObj k2 (.deferred none)).putObj k1 (.deferred none)) = .ok v ((w.putObj k2 (.deferred none)).putObj k1 (.deferred none)))
    (h : R (.returned v) ((w.putObj k2 (.deferred none)).putObj k1 (.deferred none))) : bodyPostM Fence.wide 0 P fn R .ret a w := by
  show LeavesInM _ _ _ _ _ _ _ _ _
  rw [hd]
  refine ⟨by simp, .inl ⟨_, _, rfl, run_takeDeferred (hm2.behind H), ?_⟩⟩
  refine ⟨by simp, .inl ⟨_, _, rfl, run_takeDeferred ((World.putObj_heap_other hne).trans (hm1.behind H)), ?_⟩⟩
  exact ⟨_, hres, h⟩
/-- .. whose result stands in a slot -/
theorem leave2t {k1 k2 p : Nat} {v : Value} (hm1 : Mark w0 w1 D1 k1) (X1 : Exm w0 D w1 D1) (hm2 : Mark w1 w2 D2 k2) (X2 : Exm w1 D1 w2 D2) (H : Hp w2 D2 L w) (hd : a.defers = [{ target := .collected k2, args := #[] }, { target := .collected k1, args := #[] }]) (hres : fn.results = #[.tmp p])
    (hp : a.tmps.getD p undef = v) (h : ∀ u, Hp w0 D L u → R (.returned v) u) : bodyPostM Fence.wide 0 P fn R .ret a w := by
  have hne : k1 ≠ k2 := by have := hm1.2.2.1; have := hm2.2.1; omega
  have hm1' := hm1.keep X2
  have H2 := hm2.shut X2 H
  have H3 : Hp w0 D L ((w.putObj k2 (.deferred none)).putObj k1 (.deferred none)) := by
    refine (X1.hp H2).putOther _ hm1.2.1 ?_ rfl (o := .deferred (some []))
    exact (World.putObj_heap_other hne).trans (hm1'.behind H)
  refine leave2 hne hm1' hm2 H hd ?_ (h _ H3)
  have hp' : a.tmps[p]?.getD undef = v := by simpa using hp
  simp [results, hres, hp']
/-- .. in a cell -/
theorem leave2c {k1 k2 p i b n : Nat} {agg : Bool} {t : TypeId} {x : Ent} {v : Value} (hm1 : Mark w0 w1 D1 k1) (X1 : Exm w0 D w1 D1) (hm2 : Mark w1 w2 D2 k2) (X2 : Exm w1 D1 w2 D2) (H : Hp w2 D2 L w) (hd : a.defers = [{ target := .collected k2, args := #[] }, { target := .collected k1, args := #[] }]) (hres : fn.results = #[.cell p t])
    (hp : a.tmps.getD p undef = .pointer (some ⟨b, 0, none⟩)) (hi : L[i]? = some x) (hb : x.a = some b) (ht : tI P t = some (agg, n)) (hv : pick agg n x.xs 0 = some v) (h : ∀ u, Hp w0 D L u → R (.returned v) u) : bodyPostM Fence.wide 0 P fn R .ret a w := by
  have hne : k1 ≠ k2 := by have := hm1.2.2.1; have := hm2.2.1; omega
  have hm1' := hm1.keep X2
  have H2 := hm2.shut X2 H
  have H3 : Hp w0 D L ((w.putObj k2 (.deferred none)).putObj k1 (.deferred none)) := by
    refine (X1.hp H2).putOther _ hm1.2.1 ?_ rfl (o := .deferred (some []))
    exact (World.putObj_heap_other hne).trans (hm1'.behind H)
  refine leave2 hne hm1' hm2 H hd ?_ (h _ H3)
  have := H3.load hi hb ht hv
  have hp' : a.tmps[p]?.getD undef = .pointer (some ⟨b, 0, none⟩) := by simpa using hp
  simp [results, hres, hp', asAddr, this]
end
/-- the caller's law, where a round goes on or breaks off, and one thing follows -/
theorem wp_rfE {α : Type} {P : Program} {Q : Exit → Act → World → Prop} {a : Act} {w w0 : World} {D : Nat → Prop} {M Z : List Ent} {g : Operand} {ps : Array Tmp} {assign body : Code} (id : Nat)
    (H : Hp w0 D (M ++ Z) w) {gf : Nat} {lb : Array Value} (hg : a.eval g = .func (.func gf) #[] lb) (eg : ∀ args w, (callFunc gf args).run P w = .ok (.enter gf args) w)
    {encs : α → Array Value} {full : List α} (hseq : SeqHp P gf lb encs full (fun u => Hp w0 D Z u)) (hps : ∀ x, (encs x).size = ps.size)
    (I : List α → List Ent → Prop) (Ix : List α → List Ent → Prop) (h0 : I [] M) (hQ : ∀ a w, Q .normal a w → Q (.exit id) a w)
    (a₁ : α → Act)
    (hassign : ∀ (l : Nat) (x : α) (w1 : World) (K : Act → World → Prop), K (a₁ x) w1 →
      assign.wpIn (Fence.wide.inRound l) 0 P (Exit.then K (fun _ _ _ => False)) { tmps := (ps.zip (encs x)).foldl (fun t (p, v) => t.setIfInBounds p v) a.tmps, defers := [] } w1)
    (hbody : ∀ (l : Nat) (pre : List α) (x : α) (post : List α) (L : List Ent) (w1 : World) (D1 : Nat → Prop), full = pre ++ x :: post → I pre L → Exm w0 D w1 D1 → Hp w1 D1 (L ++ Z) w1 →
      (∃ r, w1.heap[l]? = some (.loop r)) → ¬ D1 l → w0.heap.size ≤ l → body.wpIn (Fence.wide.inRound l) 0 P (rfPost w1 D1 Z I (fun c pre L => c = .exit id ∧ Ix pre L) (pre ++ [x])) (a₁ x) w1)
    (hend : ∀ (k : Nat) (pre : List α) (L : List Ent) (w1 : World) (D1 : Nat → Prop), ((pre = full ∧ I pre L) ∨ Ix pre L) → Exm w0 D w1 D1 → Hp w1 D1 (L ++ Z) w1 → Mark w0 w1 D1 k → Q .normal { a with defers := { target := .collected k, args := #[] } :: a.defers } w1) :
    (Code.rangeFunc g ps assign body).wpIn Fence.wide 0 P Q a w :=
  wp_rf1 H hg eg hseq hps I (fun c pre L => c = .exit id ∧ Ix pre L) h0 a₁ hassign hbody
    (fun k L w1 D1 hi X H1 hm => hend k full L w1 D1 (.inl ⟨rfl, hi⟩) X H1 hm)
    (fun k c pre post L w1 D1 hf hi X H1 hm => by
      obtain ⟨rfl, hi⟩ := hi
      exact wpIn_exit (hQ _ _ (hend k pre L w1 D1 (.inr hi) X H1 hm)))
end Go.Gx

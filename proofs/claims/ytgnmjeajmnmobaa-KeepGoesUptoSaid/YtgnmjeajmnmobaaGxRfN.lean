/-
  A range over a function within a round of another. Generic: no program in sight.
-/
import Derived.Test.YtgnmjeajmnmobaaGxRf
set_option linter.unusedVariables false
set_option linter.unusedSimpArgs false
namespace Go.Gx
open Go.RowKit
/-- **the caller's law, within a round of the loop l₀** -/
theorem wp_rfN {α : Type} {P : Program} {Q : Exit → Act → World → Prop} {a : Act} {w w0 : World} {D : Nat → Prop} {M Z : List Ent} {g : Operand} {ps : Array Tmp} {assign body : Code} {l₀ : Nat} {r₀ : Loop} (hl0 : w.heap[l₀]? = some (.loop r₀))
    (H : Hp w0 D (M ++ Z) w) {gf : Nat} {lb : Array Value} (hg : a.eval g = .func (.func gf) #[] lb) (eg : ∀ args w, (callFunc gf args).run P w = .ok (.enter gf args) w)
    {encs : α → Array Value} {full : List α} (hseq : SeqHp P gf lb encs full (fun u => Hp w0 D Z u)) (hps : ∀ x, (encs x).size = ps.size)
    (I : List α → List Ent → Prop) (Ix : Code → List α → List Ent → Prop) (Ax : List α → α → Act → List Ent → Prop) (h0 : I [] M)
    (hassign : ∀ (l : Nat) (pre : List α) (x : α) (post : List α) (L : List Ent) (w1 : World) (D1 : Nat → Prop) (K : Act → World → Prop), full = pre ++ x :: post → I pre L → Exm w0 D w1 D1 → Hp w1 D1 (L ++ Z) w1 →
      (∀ a' L' W', Ax pre x a' L' → Hp w1 D1 (L' ++ Z) W' → K a' W') →
      assign.wpIn (Fence.wide.inRound l) 0 P (Exit.then K (fun _ _ _ => False)) { tmps := (ps.zip (encs x)).foldl (fun t (p, v) => t.setIfInBounds p v) a.tmps, defers := [] } w1)
    (hbody : ∀ (l : Nat) (pre : List α) (x : α) (post : List α) (a' : Act) (L : List Ent) (w1 : World) (D1 : Nat → Prop), full = pre ++ x :: post → Ax pre x a' L → Exm w0 D w1 D1 → Hp w1 D1 (L ++ Z) w1 →
      (∃ r, w1.heap[l]? = some (.loop r)) → ¬ D1 l → w0.heap.size ≤ l → body.wpIn (Fence.wide.inRound l) 0 P (rfPost w1 D1 Z I Ix (pre ++ [x])) a' w1)
    (hdone : ∀ (L : List Ent) (w1 : World) (D1 : Nat → Prop), I full L → Exm w0 D w1 D1 → Hp w1 D1 (L ++ Z) w1 → Q .normal a w1)
    (hstop : ∀ (c : Code) (pre post : List α) (L : List Ent) (w1 : World) (D1 : Nat → Prop), full = pre ++ post → Ix c pre L → Exm w0 D w1 D1 → Hp w1 D1 (L ++ Z) w1 →
      c.wpIn (Fence.wide.inRound l₀) 0 P Q a w1) :
    (Code.rangeFunc g ps assign body).wpIn (Fence.wide.inRound l₀) 0 P Q a w := by
  refine wpIn_rangeFunc ?_
  intro fn hfn
  obtain ⟨rec, hrec⟩ : ∃ rec : LoopState → Option Code → Loop, rec = fun st pe => { state := st, pending := pe, fn, tmps := a.tmps, params := ps, assign, body, defers := r₀.defers } := ⟨_, rfl⟩
  obtain ⟨W1, hW1⟩ : ∃ W1, w.alloc (.loop (rec .ready none)) = W1 := ⟨_, rfl⟩
  have hL1 : W1.heap[w.heap.size]? = some (.loop (rec .ready none)) := by
    rw [← hW1]; exact World.alloc_heap_new w _
  have HW1 : Hp w0 D (M ++ Z) W1 := by rw [← hW1]; exact H.allocOther _
  have hws := H.size
  obtain ⟨N, hN⟩ : ∃ N, w.heap.size = N := ⟨_, rfl⟩
  rw [hN] at hL1 hws
  refine ⟨N, [], W1, { target := .fn (.func gf) lb, args := #[.func (.yield N) #[] #[]] }, W1, gf, #[.func (.yield N) #[] #[]] ++ lb, W1, ?_, ?_, fun f' _ => trivial, ?_, fun h => by simp [Fence.wide] at h, ?_⟩
  · have := run_enterLoop_inner (P := P) hl0 fn a.tmps ps assign body
    rw [hN] at this
    rw [← hW1, hrec]; exact this
  · simp only [resolve, hg]
    simp [go_sem]
  · simp [invoke, go_sem, eg]
  obtain ⟨J, hJ⟩ : ∃ J : List α → World → Prop, J = fun pre u => ∃ L, I pre L ∧ Hp w0 D (L ++ Z) u ∧ u.heap[N]? = some (.loop (rec .ready none)) := ⟨_, rfl⟩
  obtain ⟨Jx, hJx⟩ : ∃ Jx : List α → World → Prop, Jx = fun pre u => ∃ c L, Ix c pre L ∧ Hp w0 D (L ++ Z) u ∧ u.heap[N]? = some (.loop (rec .done (some c))) := ⟨_, rfl⟩
  have old : ∀ {u u' : World} {b : Nat} {o : Obj}, Grow u u' → u.heap[b]? = some o → u'.heap[b]? = some o := fun g h => by
    rw [g.frame _ (Array.getElem?_eq_some_iff.1 h).1 (fun h => h)]; exact h
  refine CallsIn.mono (hseq N J Jx W1 (fun pre u hu => ?_) (fun pre u u' hu hgr => ?_) (fun pre u u' hu hgr => ?_) (fun pre x post u hfull hu => ?_) ?_) ?_
  · rw [hJ] at hu
    obtain ⟨L, _, h, _⟩ := hu
    exact h.dropL
  · rw [hJ] at hu ⊢
    obtain ⟨L, hi, h, hl⟩ := hu
    exact ⟨L, hi, h.grow hgr, old hgr hl⟩
  · rw [hJx] at hu ⊢
    obtain ⟨c, L, hi, h, hl⟩ := hu
    exact ⟨c, L, hi, h.grow hgr, old hgr hl⟩
  · -- one round
    rw [hJ] at hu
    obtain ⟨L, hi, h, hl⟩ := hu
    have hy := run_yield (P := P) (args := encs x) hl (by rw [hrec]; exact hps x)
    rw [hrec] at hy
    obtain ⟨Da, Xa, Ha, na⟩ := h.rebase
    refine ⟨fn, _, assign, body, hy, roundIn_of_wpIn trivial (hassign _ pre x post L u Da _ hfull hi Xa Ha ?_)⟩
    clear hy
    intro a' L' Wa hax HWa
    have hla : Wa.heap[N]? = some (.loop (rec .ready none)) := by
      rw [HWa.frame _ (Array.getElem?_eq_some_iff.1 hl).1 (na _ _ hl rfl (by omega))]; exact hl
    have Hwa0 : Hp w0 D (L' ++ Z) Wa := Xa.hp HWa
    refine ⟨_, run_beginRound hla (by rw [hrec]), ?_⟩
    have hlt : N < Wa.heap.size := (Array.getElem?_eq_some_iff.1 hla).1
    obtain ⟨Wb, hWb⟩ : ∃ Wb, Wa.putObj N (.loop { rec .ready none with state := .busy }) = Wb := ⟨_, rfl⟩
    rw [hWb]
    have Hb0 : Hp w0 D (L' ++ Z) Wb := by rw [← hWb]; exact Hwa0.putOther _ (by omega) hla rfl
    have hlb : Wb.heap[N]? = some (.loop { rec .ready none with state := .busy }) := by rw [← hWb]; exact World.putObj_heap_same hlt
    obtain ⟨Db, Xb, Hb, nb⟩ := Hb0.rebase
    refine wpIn_mono (hbody _ pre x post a' L' Wb Db hfull hax Xb Hb ⟨_, hlb⟩ (nb _ _ hlb rfl (by omega)) (by omega)) ?_
    have fin : ∀ (jump : Option Code) (L3 : List Ent) (W3 : World), Hp Wb Db (L3 ++ Z) W3 →
        (Instr.endRound N jump).run P W3 = .ok (.bool jump.isNone) (W3.putObj N (.loop (rec (if jump.isNone then .ready else .done) jump))) ∧
        Hp w0 D (L3 ++ Z) (W3.putObj N (.loop (rec (if jump.isNone then .ready else .done) jump))) ∧
        (W3.putObj N (.loop (rec (if jump.isNone then .ready else .done) jump))).heap[N]? = some (.loop (rec (if jump.isNone then .ready else .done) jump)) := fun jump L3 W3 H3 => by
      have hl3 : W3.heap[N]? = some (.loop { rec .ready none with state := .busy }) := by
        rw [H3.frame _ (Array.getElem?_eq_some_iff.1 hlb).1 (nb _ _ hlb rfl (by omega))]; exact hlb
      have := run_endRound (P := P) jump hl3
      rw [hrec] at this ⊢
      refine ⟨this, ?_, World.putObj_heap_same (Array.getElem?_eq_some_iff.1 hl3).1⟩
      exact (Xb.hp H3).putOther _ (by omega) hl3 rfl
    rintro e a3 W3 hp
    cases e with
    | normal =>
      obtain ⟨L3, hi3, H3⟩ := hp
      obtain ⟨hr, h3, hl4⟩ := fin none L3 W3 H3
      exact ⟨_, _, hr, .inl ⟨rfl, by rw [hJ]; exact ⟨L3, hi3, h3, hl4⟩⟩⟩
    | ret =>
      obtain ⟨L3, hi3, H3⟩ := hp
      obtain ⟨hr, h3, hl4⟩ := fin (some .ret) L3 W3 H3
      exact ⟨_, _, hr, .inr ⟨rfl, by rw [hJx]; exact ⟨_, L3, hi3, h3, hl4⟩⟩⟩
    | exit id =>
      obtain ⟨L3, hi3, H3⟩ := hp
      obtain ⟨hr, h3, hl4⟩ := fin (some (.exit id)) L3 W3 H3
      exact ⟨_, _, hr, .inr ⟨rfl, by rw [hJx]; exact ⟨_, L3, hi3, h3, hl4⟩⟩⟩
    | goto t =>
      obtain ⟨L3, hi3, H3⟩ := hp
      obtain ⟨hr, h3, hl4⟩ := fin (some (.goto t)) L3 W3 H3
      exact ⟨_, _, hr, .inr ⟨rfl, by rw [hJx]; exact ⟨_, L3, hi3, h3, hl4⟩⟩⟩
    | panic ch => exact hp.elim
    | outgrown => exact hp.elim
  · rw [hJ]; exact ⟨M, h0, HW1, hL1⟩
  · -- behind the iterator
    have after : ∀ (st : LoopState) (pe : Option Code) (L : List Ent) (u : World), st ≠ .busy → Hp w0 D (L ++ Z) u → u.heap[N]? = some (.loop (rec st pe)) →
        ∃ u' D1, (Instr.endLoop N).run P u = .ok pe u' ∧ Exm w0 D u' D1 ∧ Hp u' D1 (L ++ Z) u' := fun st pe L u hst h hl => by
      have hr := run_endLoop (P := P) hl (by rw [hrec]; exact hst)
      have h' : Hp w0 D (L ++ Z) (u.putObj N (.loop { rec st pe with state := .exhausted })) := h.putOther _ (by omega) hl rfl
      obtain ⟨D1, X, H1, n1⟩ := h'.rebase
      refine ⟨_, D1, ?_, X, H1⟩
      rw [hr, hrec]
    rintro e W2 ⟨⟨v, rfl⟩, hh⟩
    rcases hh with hh | ⟨pre, post, hfull, hh⟩
    · rw [hJ] at hh
      obtain ⟨L, hi, h, hl⟩ := hh
      obtain ⟨u', D1, hr, X, H1⟩ := after _ _ L W2 (by simp) h hl
      exact ⟨none, u', hr, hdone L u' D1 hi X H1⟩
    · rw [hJx] at hh
      obtain ⟨c, L, hi, h, hl⟩ := hh
      obtain ⟨u', D1, hr, X, H1⟩ := after _ _ L W2 (by simp) h hl
      exact ⟨some c, u', hr, hstop c pre post L u' D1 hfull hi X H1⟩
/-- the same, where the loop's left sides are plain slots -/
theorem wp_rfN1 {α : Type} {P : Program} {Q : Exit → Act → World → Prop} {a : Act} {w w0 : World} {D : Nat → Prop} {M Z : List Ent} {g : Operand} {ps : Array Tmp} {assign body : Code} {l₀ : Nat} {r₀ : Loop} (hl0 : w.heap[l₀]? = some (.loop r₀))
    (H : Hp w0 D (M ++ Z) w) {gf : Nat} {lb : Array Value} (hg : a.eval g = .func (.func gf) #[] lb) (eg : ∀ args w, (callFunc gf args).run P w = .ok (.enter gf args) w)
    {encs : α → Array Value} {full : List α} (hseq : SeqHp P gf lb encs full (fun u => Hp w0 D Z u)) (hps : ∀ x, (encs x).size = ps.size)
    (I : List α → List Ent → Prop) (Ix : Code → List α → List Ent → Prop) (h0 : I [] M) (a₁ : α → Act)
    (hassign : ∀ (l : Nat) (x : α) (w1 : World) (K : Act → World → Prop), K (a₁ x) w1 →
      assign.wpIn (Fence.wide.inRound l) 0 P (Exit.then K (fun _ _ _ => False)) { tmps := (ps.zip (encs x)).foldl (fun t (p, v) => t.setIfInBounds p v) a.tmps, defers := [] } w1)
    (hbody : ∀ (l : Nat) (pre : List α) (x : α) (post : List α) (L : List Ent) (w1 : World) (D1 : Nat → Prop), full = pre ++ x :: post → I pre L → Exm w0 D w1 D1 → Hp w1 D1 (L ++ Z) w1 →
      body.wpIn (Fence.wide.inRound l) 0 P (rfPost w1 D1 Z I Ix (pre ++ [x])) (a₁ x) w1)
    (hdone : ∀ (L : List Ent) (w1 : World) (D1 : Nat → Prop), I full L → Exm w0 D w1 D1 → Hp w1 D1 (L ++ Z) w1 → Q .normal a w1)
    (hstop : ∀ (c : Code) (pre post : List α) (L : List Ent) (w1 : World) (D1 : Nat → Prop), full = pre ++ post → Ix c pre L → Exm w0 D w1 D1 → Hp w1 D1 (L ++ Z) w1 →
      c.wpIn (Fence.wide.inRound l₀) 0 P Q a w1) :
    (Code.rangeFunc g ps assign body).wpIn (Fence.wide.inRound l₀) 0 P Q a w :=
  wp_rfN hl0 H hg eg hseq hps I Ix (fun pre x a' L => a' = a₁ x ∧ I pre L) h0 (fun l pre x post L w1 D1 K _ hi _ H1 hK => hassign l x w1 K (hK _ _ _ ⟨rfl, hi⟩ H1))
    (fun l pre x post a' L w1 D1 hfull hi X H1 _ _ _ => by obtain ⟨rfl, hi⟩ := hi; exact hbody l pre x post L w1 D1 hfull hi X H1) hdone hstop
end Go.Gx

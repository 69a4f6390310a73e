/- Ranges over functions, beside Hp. Generic: no program in sight. -/
import Derived.Test.YtebecelhcpljaaaGxRd
import Derived.Test.YtebecelhcpljaaaGxMp
import Derived.RangeFuncNested
import Derived.RangeFuncLeaves
import Derived.RangeFuncBound
import Derived.RangeFuncCalls
import Derived.OwnWalkIn
import Derived.Test.YtebecelhcpljaaaGxRegionS
import Derived.LoopN
import Derived.LoopNIn
import Derived.OrdersIn
set_option linter.unusedVariables false
set_option linter.unusedSimpArgs false
namespace Go.Gx
open Go.RowKit
section
variable {w0 w w1 : World} {D D1 : Nat → Prop} {L M Z : List Ent}
/-- what lay stands -/
abbrev Grow (W W' : World) : Prop := Hp W (fun _ => False) [] W'
theorem ent_cells {x : Ent} {b : Nat} (h : x.at w) (hb : x.a = some b) : ∃ o : Obj, w.heap[b]? = some o ∧ o.isCells = true := by
  obtain ⟨cur, hc, _⟩ := Ent.at_some h hb
  exact ⟨_, hc, rfl⟩
/-- a block that holds no cells turns -/
theorem Hp.putOther (H : Hp w0 D L w) {l : Nat} {o : Obj} (o' : Obj) (hl : w0.heap.size ≤ l) (ho : w.heap[l]? = some o) (hc : o.isCells = false) : Hp w0 D L (w.putObj l o') := by
  refine ⟨H.os, H.tape, H.output, by show _ ≤ (w.heap.setIfInBounds l o').size; rw [Array.size_setIfInBounds]; exact H.size, fun b hb hd => ?_, fun i x hi => ?_, H.mine, H.apart⟩
  · rw [World.putObj_heap_other (by omega)]; exact H.frame b hb hd
  · refine Ent.at_of_heap (H.ents i x hi) fun b hb => World.putObj_heap_other fun e => ?_
    obtain ⟨o2, h2, h3⟩ := ent_cells (H.ents i x hi) hb
    rw [e, ho] at h2
    cases h2
    rw [hc] at h3; cases h3
theorem Hp.grow (H : Hp w0 D L w) {w' : World} (g : Grow w w') : Hp w0 D L w' :=
  ⟨g.os.trans H.os, g.tape.trans H.tape, g.output.trans H.output, Nat.le_trans H.size g.size, fun b hb hd => by rw [g.frame b (Nat.lt_of_lt_of_le hb H.size) (fun h => h)]; exact H.frame b hb hd,
   fun i x hi => Ent.at_of_heap (H.ents i x hi) fun b hb => g.frame b (H.lt hi hb) (fun h => h), H.mine, H.apart⟩
theorem Grow.refl (W : World) : Grow W W := Hp.start W
theorem Grow.drew (W : World) : Grow W W.drew := (Hp.start W).drew
theorem Grow.trans {A B C : World} (h : Grow A B) (k : Grow B C) : Grow A C := Hp.grow h k
/-- the present world in the old one's place: of what was made since, the list's blocks alone may turn -/
theorem Hp.rebase (H : Hp w0 D L w) : ∃ D1, Exm w0 D w D1 ∧ Hp w D1 L w ∧ ∀ b o, w.heap[b]? = some o → o.isCells = false → w0.heap.size ≤ b → ¬ D1 b := by
  refine ⟨fun b => (D b ∧ b < w0.heap.size) ∨ (w0.heap.size ≤ b ∧ ∃ (i : Nat) (x : Ent), L[i]? = some x ∧ x.a = some b), ⟨H.os, H.tape, H.output, H.size, fun b hb hE => ⟨?_, H.frame b hb hE⟩⟩,
    ⟨rfl, rfl, rfl, Nat.le_refl _, fun _ _ _ => rfl, H.ents, fun i x b hi hb => .inl ?_, H.apart⟩, ?_⟩
  · rintro (h | h)
    · exact hE h.1
    · omega
  · rcases H.mine i x b hi hb with h | h
    · by_cases hlt : b < w0.heap.size
      · exact .inl ⟨h, hlt⟩
      · exact .inr ⟨by omega, i, x, hi, hb⟩
    · exact .inr ⟨h, i, x, hi, hb⟩
  · rintro b o ho hc hle (h | ⟨_, i, x, hi, hb⟩)
    · omega
    · obtain ⟨o2, h2, h3⟩ := ent_cells (H.ents i x hi) hb
      rw [ho] at h2; cases h2; rw [hc] at h3; cases h3
theorem Exm.rd {x : Option Addr} {xs : List Value} (X : Exm w0 D w1 D1) (h : Rd w0 D Z x xs) : Rd w1 D1 Z x xs := by
  rcases h with h | ⟨b, o, e, h⟩
  · exact .inl h
  · exact .inr ⟨b, o, e, fun L' w' H => h L' w' (X.hp H)⟩
theorem Exm.comp {W V U : World} {E F G : Nat → Prop} (h : Exm W E V F) (k : Exm V F U G) : Exm W E U G :=
  ⟨k.os.trans h.os, k.tape.trans h.tape, k.output.trans h.output, Nat.le_trans h.size k.size, fun b hb hE => by
    have h1 := h.keep b hb hE
    have h2 := k.keep b (Nat.lt_of_lt_of_le hb h.size) h1.1
    exact ⟨h2.1, h2.2.trans h1.2⟩⟩
/-- a block that holds no cells is made -/
theorem Hp.allocOther (H : Hp w0 D L w) (o : Obj) : Hp w0 D L (w.alloc o) :=
  H.grow ⟨rfl, rfl, rfl, by simp, fun b hb _ => heap_alloc_old w o hb, fun i x h => by simp at h, fun i x b h => by simp at h, fun i j x y b h => by simp at h⟩
end
/-! ### The iterator's contract -/
def SeqHp {α : Type} (P : Program) (gf : Nat) (lb : Array Value) (encs : α → Array Value) (full : List α) (S : World → Prop) : Prop :=
  ∀ (l : Nat) (J Jx : List α → World → Prop) (W : World),
    (∀ pre u, J pre u → S u) → (∀ pre u u', J pre u → Grow u u' → J pre u') → (∀ pre u u', Jx pre u → Grow u u' → Jx pre u') →
    (∀ pre x post u, full = pre ++ x :: post → J pre u → YieldAt Fence.wide 0 P l (encs x) u fun e u' => (e = .returned (.bool true) ∧ J (pre ++ [x]) u') ∨ (e = .returned (.bool false) ∧ Jx (pre ++ [x]) u')) →
    J [] W →
    CallsIn Fence.wide 0 P gf (#[.func (.yield l) #[] #[]] ++ lb) W fun e u' => (∃ v, e = .returned v) ∧ (J full u' ∨ ∃ pre post, full = pre ++ post ∧ Jx pre u')
/-- the mark of a loop's deferred calls: none -/
def Mark (w0 w1 : World) (D1 : Nat → Prop) (k : Nat) : Prop := ¬ D1 k ∧ w0.heap.size ≤ k ∧ k < w1.heap.size ∧ w1.heap[k]? = some (.deferred (some []))
theorem Mark.behind {w0 w1 w : World} {D1 : Nat → Prop} {k : Nat} {L : List Ent} (h : Mark w0 w1 D1 k) (H : Hp w1 D1 L w) : w.heap[k]? = some (.deferred (some [])) := by
  rw [H.frame k h.2.2.1 h.1]; exact h.2.2.2
/-- how a round's body is left -/
def rfPost {α : Type} (w1 : World) (D1 : Nat → Prop) (Z : List Ent) (I : List α → List Ent → Prop) (Ix : Code → List α → List Ent → Prop) (xs : List α) : Exit → Act → World → Prop
  | .normal, _, W' => ∃ L, I xs L ∧ Hp w1 D1 (L ++ Z) W'
  | .ret, _, W' => ∃ L, Ix .ret xs L ∧ Hp w1 D1 (L ++ Z) W'
  | .exit id, _, W' => ∃ L, Ix (.exit id) xs L ∧ Hp w1 D1 (L ++ Z) W'
  | .goto t, _, W' => ∃ L, Ix (.goto t) xs L ∧ Hp w1 D1 (L ++ Z) W'
  | .panic _, _, _ => False
  | .outgrown, _, _ => False
theorem room0 {n : Nat} : Fence.wide.room n := room_wide n
/-- **the caller's law** -/
theorem wp_rf {α : Type} {P : Program} {Q : Exit → Act → World → Prop} {a : Act} {w w0 : World} {D : Nat → Prop} {M Z : List Ent} {g : Operand} {ps : Array Tmp} {assign body : Code}
    (H : Hp w0 D (M ++ Z) w) {gf : Nat} {lb : Array Value} (hg : a.eval g = .func (.func gf) #[] lb) (eg : ∀ args w, (callFunc gf args).run P w = .ok (.enter gf args) w)
    {encs : α → Array Value} {full : List α} (hseq : SeqHp P gf lb encs full (fun u => Hp w0 D Z u)) (hps : ∀ x, (encs x).size = ps.size)
    (I : List α → List Ent → Prop) (Ix : Code → List α → List Ent → Prop) (Ax : List α → α → Act → List Ent → Prop) (h0 : I [] M)
    (hassign : ∀ (l : Nat) (pre : List α) (x : α) (post : List α) (L : List Ent) (w1 : World) (D1 : Nat → Prop) (K : Act → World → Prop), full = pre ++ x :: post → I pre L → Exm w0 D w1 D1 → Hp w1 D1 (L ++ Z) w1 →
      (∀ a' L' W', Ax pre x a' L' → Hp w1 D1 (L' ++ Z) W' → K a' W') →
      assign.wpIn (Fence.wide.inRound l) 0 P (Exit.then K (fun _ _ _ => False)) { tmps := (ps.zip (encs x)).foldl (fun t (p, v) => t.setIfInBounds p v) a.tmps, defers := [] } w1)
    (hbody : ∀ (l : Nat) (pre : List α) (x : α) (post : List α) (a' : Act) (L : List Ent) (w1 : World) (D1 : Nat → Prop), full = pre ++ x :: post → Ax pre x a' L → Exm w0 D w1 D1 → Hp w1 D1 (L ++ Z) w1 →
      (∃ r, w1.heap[l]? = some (.loop r)) → ¬ D1 l → w0.heap.size ≤ l → body.wpIn (Fence.wide.inRound l) 0 P (rfPost w1 D1 Z I Ix (pre ++ [x])) a' w1)
    (hdone : ∀ (k : Nat) (L : List Ent) (w1 : World) (D1 : Nat → Prop), I full L → Exm w0 D w1 D1 → Hp w1 D1 (L ++ Z) w1 → Mark w0 w1 D1 k → Q .normal { a with defers := { target := .collected k, args := #[] } :: a.defers } w1)
    (hstop : ∀ (k : Nat) (c : Code) (pre post : List α) (L : List Ent) (w1 : World) (D1 : Nat → Prop), full = pre ++ post → Ix c pre L → Exm w0 D w1 D1 → Hp w1 D1 (L ++ Z) w1 → Mark w0 w1 D1 k →
      c.wpIn Fence.wide 0 P Q { a with defers := { target := .collected k, args := #[] } :: a.defers } w1) :
    (Code.rangeFunc g ps assign body).wpIn Fence.wide 0 P Q a w := by
  refine wpIn_rangeFunc ?_
  intro fn hfn
  obtain ⟨rec, hrec⟩ : ∃ rec : LoopState → Option Code → Loop, rec = fun st pe => { state := st, pending := pe, fn, tmps := a.tmps, params := ps, assign, body, defers := w.heap.size } := ⟨_, rfl⟩
  obtain ⟨W1, hW1⟩ : ∃ W1, (w.alloc (.deferred (some []))).alloc (.loop (rec .ready none)) = W1 := ⟨_, rfl⟩
  have hL1 : W1.heap[w.heap.size + 1]? = some (.loop (rec .ready none)) := by
    rw [← hW1]; have := World.alloc_heap_new (w.alloc (.deferred (some []))) (.loop (rec .ready none)); rwa [World.size_alloc] at this
  have hK1 : W1.heap[w.heap.size]? = some (.deferred (some [])) := by
    rw [← hW1, heap_alloc_old _ _ (by simp)]; exact World.alloc_heap_new w _
  have HW1 : Hp w0 D (M ++ Z) W1 := by rw [← hW1]; exact (H.allocOther _).allocOther _
  have hws := H.size
  obtain ⟨N, hN⟩ : ∃ N, w.heap.size = N := ⟨_, rfl⟩
  rw [hN] at hL1 hK1 hws hrec
  refine ⟨N + 1, [{ target := .collected N, args := #[] }], W1, { target := .fn (.func gf) lb, args := #[.func (.yield (N + 1)) #[] #[]] }, W1, gf, #[.func (.yield (N + 1)) #[] #[]] ++ lb, W1, ?_, ?_, fun f' _ => trivial, ?_, fun h => by simp [Fence.wide] at h, ?_⟩
  · have := run_enterLoop_outer (P := P) (w := w) fn a.tmps ps assign body
    rw [hN] at this
    rw [← hW1, hrec]; exact this
  · simp only [resolve, hg]
    simp [go_sem]
  · simp [invoke, go_sem, eg]
  obtain ⟨J, hJ⟩ : ∃ J : List α → World → Prop, J = fun pre u => ∃ L, I pre L ∧ Hp w0 D (L ++ Z) u ∧ u.heap[N + 1]? = some (.loop (rec .ready none)) ∧ u.heap[N]? = some (.deferred (some [])) := ⟨_, rfl⟩
  obtain ⟨Jx, hJx⟩ : ∃ Jx : List α → World → Prop, Jx = fun pre u => ∃ c L, Ix c pre L ∧ Hp w0 D (L ++ Z) u ∧ u.heap[N + 1]? = some (.loop (rec .done (some c))) ∧ u.heap[N]? = some (.deferred (some [])) := ⟨_, rfl⟩
  have old : ∀ {u u' : World} {b : Nat} {o : Obj}, Grow u u' → u.heap[b]? = some o → u'.heap[b]? = some o := fun g h => by
    rw [g.frame _ (Array.getElem?_eq_some_iff.1 h).1 (fun h => h)]; exact h
  refine CallsIn.mono (hseq (N + 1) J Jx W1 (fun pre u hu => ?_) (fun pre u u' hu hgr => ?_) (fun pre u u' hu hgr => ?_) (fun pre x post u hfull hu => ?_) ?_) ?_
  · rw [hJ] at hu
    obtain ⟨L, _, h, _⟩ := hu
    exact h.dropL
  · rw [hJ] at hu ⊢
    obtain ⟨L, hi, h, hl, hk⟩ := hu
    exact ⟨L, hi, h.grow hgr, old hgr hl, old hgr hk⟩
  · rw [hJx] at hu ⊢
    obtain ⟨c, L, hi, h, hl, hk⟩ := hu
    exact ⟨c, L, hi, h.grow hgr, old hgr hl, old hgr hk⟩
  · -- one round
    rw [hJ] at hu
    obtain ⟨L, hi, h, hl, hk⟩ := hu
    have hy := run_yield (P := P) (args := encs x) hl (by rw [hrec]; exact hps x)
    rw [hrec] at hy
    obtain ⟨Da, Xa, Ha, na⟩ := h.rebase
    refine ⟨fn, _, assign, body, hy, roundIn_of_wpIn trivial (hassign _ pre x post L u Da _ hfull hi Xa Ha ?_)⟩
    clear hy
    intro a' L' Wa hax HWa
    have hla : Wa.heap[N + 1]? = some (.loop (rec .ready none)) := by
      rw [HWa.frame _ (Array.getElem?_eq_some_iff.1 hl).1 (na _ _ hl rfl (by omega))]; exact hl
    have hka : Wa.heap[N]? = some (.deferred (some [])) := by
      rw [HWa.frame _ (Array.getElem?_eq_some_iff.1 hk).1 (na _ _ hk rfl (by omega))]; exact hk
    have Hwa0 : Hp w0 D (L' ++ Z) Wa := Xa.hp HWa
    refine ⟨_, run_beginRound hla (by rw [hrec]), ?_⟩
    have hlt : N + 1 < Wa.heap.size := (Array.getElem?_eq_some_iff.1 hla).1
    obtain ⟨Wb, hWb⟩ : ∃ Wb, Wa.putObj (N + 1) (.loop { rec .ready none with state := .busy }) = Wb := ⟨_, rfl⟩
    rw [hWb]
    have Hb0 : Hp w0 D (L' ++ Z) Wb := by rw [← hWb]; exact Hwa0.putOther _ (by omega) hla rfl
    have hlb : Wb.heap[N + 1]? = some (.loop { rec .ready none with state := .busy }) := by rw [← hWb]; exact World.putObj_heap_same hlt
    have hkb : Wb.heap[N]? = some (.deferred (some [])) := by rw [← hWb, World.putObj_heap_other (by omega)]; exact hka
    obtain ⟨Db, Xb, Hb, nb⟩ := Hb0.rebase
    refine wpIn_mono (hbody _ pre x post a' L' Wb Db hfull hax Xb Hb ⟨_, hlb⟩ (nb _ _ hlb rfl (by omega)) (by omega)) ?_
    have fin : ∀ (jump : Option Code) (L3 : List Ent) (W3 : World), Hp Wb Db (L3 ++ Z) W3 →
        (Instr.endRound (N + 1) jump).run P W3 = .ok (.bool jump.isNone) (W3.putObj (N + 1) (.loop (rec (if jump.isNone then .ready else .done) jump))) ∧
        Hp w0 D (L3 ++ Z) (W3.putObj (N + 1) (.loop (rec (if jump.isNone then .ready else .done) jump))) ∧
        (W3.putObj (N + 1) (.loop (rec (if jump.isNone then .ready else .done) jump))).heap[N + 1]? = some (.loop (rec (if jump.isNone then .ready else .done) jump)) ∧
        (W3.putObj (N + 1) (.loop (rec (if jump.isNone then .ready else .done) jump))).heap[N]? = some (.deferred (some [])) := fun jump L3 W3 H3 => by
      have hl3 : W3.heap[N + 1]? = some (.loop { rec .ready none with state := .busy }) := by
        rw [H3.frame _ (Array.getElem?_eq_some_iff.1 hlb).1 (nb _ _ hlb rfl (by omega))]; exact hlb
      have hk3 : W3.heap[N]? = some (.deferred (some [])) := by
        rw [H3.frame _ (Array.getElem?_eq_some_iff.1 hkb).1 (nb _ _ hkb rfl (by omega))]; exact hkb
      have := run_endRound (P := P) jump hl3
      rw [hrec] at this ⊢
      refine ⟨this, ?_, World.putObj_heap_same (Array.getElem?_eq_some_iff.1 hl3).1, (World.putObj_heap_other (by omega)).trans hk3⟩
      exact (Xb.hp H3).putOther _ (by omega) hl3 rfl
    rintro e a3 W3 hp
    cases e with
    | normal =>
      obtain ⟨L3, hi3, H3⟩ := hp
      obtain ⟨hr, h3, hl4, hk4⟩ := fin none L3 W3 H3
      exact ⟨_, _, hr, .inl ⟨rfl, by rw [hJ]; exact ⟨L3, hi3, h3, hl4, hk4⟩⟩⟩
    | ret =>
      obtain ⟨L3, hi3, H3⟩ := hp
      obtain ⟨hr, h3, hl4, hk4⟩ := fin (some .ret) L3 W3 H3
      exact ⟨_, _, hr, .inr ⟨rfl, by rw [hJx]; exact ⟨_, L3, hi3, h3, hl4, hk4⟩⟩⟩
    | exit id =>
      obtain ⟨L3, hi3, H3⟩ := hp
      obtain ⟨hr, h3, hl4, hk4⟩ := fin (some (.exit id)) L3 W3 H3
      exact ⟨_, _, hr, .inr ⟨rfl, by rw [hJx]; exact ⟨_, L3, hi3, h3, hl4, hk4⟩⟩⟩
    | goto t =>
      obtain ⟨L3, hi3, H3⟩ := hp
      obtain ⟨hr, h3, hl4, hk4⟩ := fin (some (.goto t)) L3 W3 H3
      exact ⟨_, _, hr, .inr ⟨rfl, by rw [hJx]; exact ⟨_, L3, hi3, h3, hl4, hk4⟩⟩⟩
    | panic ch => exact hp.elim
    | outgrown => exact hp.elim
  · rw [hJ]; exact ⟨M, h0, HW1, hL1, hK1⟩
  · -- behind the iterator
    have after : ∀ (st : LoopState) (pe : Option Code) (L : List Ent) (u : World), st ≠ .busy → Hp w0 D (L ++ Z) u → u.heap[N + 1]? = some (.loop (rec st pe)) → u.heap[N]? = some (.deferred (some [])) →
        ∃ u' D1, (Instr.endLoop (N + 1)).run P u = .ok pe u' ∧ Exm w0 D u' D1 ∧ Hp u' D1 (L ++ Z) u' ∧ Mark w0 u' D1 N := fun st pe L u hst h hl hk => by
      have hr := run_endLoop (P := P) hl (by rw [hrec]; exact hst)
      have h' : Hp w0 D (L ++ Z) (u.putObj (N + 1) (.loop { rec st pe with state := .exhausted })) := h.putOther _ (by omega) hl rfl
      have hk' : (u.putObj (N + 1) (.loop { rec st pe with state := .exhausted })).heap[N]? = some (.deferred (some [])) := (World.putObj_heap_other (by omega)).trans hk
      obtain ⟨D1, X, H1, n1⟩ := h'.rebase
      refine ⟨_, D1, ?_, X, H1, n1 _ _ hk' rfl (by omega), by omega, (Array.getElem?_eq_some_iff.1 hk').1, hk'⟩
      rw [hr, hrec]
    rintro e W2 ⟨⟨v, rfl⟩, hh⟩
    rcases hh with hh | ⟨pre, post, hfull, hh⟩
    · rw [hJ] at hh
      obtain ⟨L, hi, h, hl, hk⟩ := hh
      obtain ⟨u', D1, hr, X, H1, hm⟩ := after _ _ L W2 (by simp) h hl hk
      exact ⟨none, u', hr, hdone N L u' D1 hi X H1 hm⟩
    · rw [hJx] at hh
      obtain ⟨c, L, hi, h, hl, hk⟩ := hh
      obtain ⟨u', D1, hr, X, H1, hm⟩ := after _ _ L W2 (by simp) h hl hk
      exact ⟨some c, u', hr, hstop N c pre post L u' D1 hfull hi X H1 hm⟩
/-- the same, where the loop's left sides are plain slots -/
theorem wp_rf1 {α : Type} {P : Program} {Q : Exit → Act → World → Prop} {a : Act} {w w0 : World} {D : Nat → Prop} {M Z : List Ent} {g : Operand} {ps : Array Tmp} {assign body : Code}
    (H : Hp w0 D (M ++ Z) w) {gf : Nat} {lb : Array Value} (hg : a.eval g = .func (.func gf) #[] lb) (eg : ∀ args w, (callFunc gf args).run P w = .ok (.enter gf args) w)
    {encs : α → Array Value} {full : List α} (hseq : SeqHp P gf lb encs full (fun u => Hp w0 D Z u)) (hps : ∀ x, (encs x).size = ps.size)
    (I : List α → List Ent → Prop) (Ix : Code → List α → List Ent → Prop) (h0 : I [] M) (a₁ : α → Act)
    (hassign : ∀ (l : Nat) (x : α) (w1 : World) (K : Act → World → Prop), K (a₁ x) w1 →
      assign.wpIn (Fence.wide.inRound l) 0 P (Exit.then K (fun _ _ _ => False)) { tmps := (ps.zip (encs x)).foldl (fun t (p, v) => t.setIfInBounds p v) a.tmps, defers := [] } w1)
    (hbody : ∀ (l : Nat) (pre : List α) (x : α) (post : List α) (L : List Ent) (w1 : World) (D1 : Nat → Prop), full = pre ++ x :: post → I pre L → Exm w0 D w1 D1 → Hp w1 D1 (L ++ Z) w1 →
      (∃ r, w1.heap[l]? = some (.loop r)) → ¬ D1 l → w0.heap.size ≤ l → body.wpIn (Fence.wide.inRound l) 0 P (rfPost w1 D1 Z I Ix (pre ++ [x])) (a₁ x) w1)
    (hdone : ∀ (k : Nat) (L : List Ent) (w1 : World) (D1 : Nat → Prop), I full L → Exm w0 D w1 D1 → Hp w1 D1 (L ++ Z) w1 → Mark w0 w1 D1 k → Q .normal { a with defers := { target := .collected k, args := #[] } :: a.defers } w1)
    (hstop : ∀ (k : Nat) (c : Code) (pre post : List α) (L : List Ent) (w1 : World) (D1 : Nat → Prop), full = pre ++ post → Ix c pre L → Exm w0 D w1 D1 → Hp w1 D1 (L ++ Z) w1 → Mark w0 w1 D1 k →
      c.wpIn Fence.wide 0 P Q { a with defers := { target := .collected k, args := #[] } :: a.defers } w1) :
    (Code.rangeFunc g ps assign body).wpIn Fence.wide 0 P Q a w :=
  wp_rf H hg eg hseq hps I Ix (fun pre x a' L => a' = a₁ x ∧ I pre L) h0 (fun l pre x post L w1 D1 K _ hi _ H1 hK => hassign l x w1 K (hK _ _ _ ⟨rfl, hi⟩ H1))
    (fun l pre x post a' L w1 D1 hfull hi X H1 hr hnd hle => by obtain ⟨rfl, hi⟩ := hi; exact hbody l pre x post L w1 D1 hfull hi X H1 hr hnd hle) hdone hstop
end Go.Gx
set_option linter.unusedVariables false
set_option linter.unusedSimpArgs false
namespace Go.Gx
open Go.RowKit
/-- no operation defers -/
def calmB (o : Oper) : Bool := match o.op with | .defer _ => false | _ => true
section
variable {P : Program} {l n : Nat} {ops : Array Oper} {Q : Exit → Act → World → Prop} {a : Act} {w : World}
theorem rows_in {row : String} {args : Array Value} {R : Value → World → Prop} (h : Rows P row args w R) : RowsIn (Fence.wide.inRound l) n P row args w R := fun c cs _ => by
  obtain ⟨v, w', hR, hs⟩ := h c cs
  exact ⟨v, w', hR, stepsIn_wide.2 hs⟩
theorem calls_in {f : FuncId} {args : Array Value} {R : Ending → World → Prop} (h : Calls P f args w R) : CallsIn (Fence.wide.inRound l) n P f args w R := CallsIn.inRound l (callsIn_wide.2 h)
theorem upon_in {o : Oper} {next next' : Act → World → Prop} (hQ : ¬ LetsOut Q) (hn : ∀ a w, next a w → next' a w) : ∀ r : Result Next, o.upon P a next Q r → o.uponIn (Fence.wide.inRound l) n P a next' Q r
  | .ok (.value v) w', h => hn _ _ h
  | .ok .skip w', h => hn _ _ h
  | .ok (.defer d) w', h => hn _ _ h
  | .ok (.enter f args) w', h => ⟨fun h => by simp [Fence.wide, Fence.inRound] at h, (calls_in h).mono fun e w'' h => by
      cases e with
      | returned v => exact hn _ _ h
      | panicked ch => exact h
      | outgrown => exact h⟩
  | .ok (.row row args) w', h => ⟨fun h => by simp [Fence.wide, Fence.inRound] at h, (rows_in h).mono fun v w'' h => hn _ _ h⟩
  | .ok (.round _ _ _ _ _) w', h => h.elim
  | .halt (.panic v) w', h => h
theorem oper_in {o : Oper} (hc : calmB o = true) {next next' : Act → World → Prop} (hQ : ¬ LetsOut Q) (hn : ∀ a w, next a w → next' a w) (h : o.wp P a w next Q) : o.wpIn (Fence.wide.inRound l) n P a w next' Q := by
  refine ⟨fun _ _ => trivial, ?_⟩
  have e : o.semAt (Fence.wide.inRound l).round a.eval = execOp a.eval o := Oper.semAt_some l a.eval o fun c hc2 => by unfold calmB at hc; rw [hc2] at hc; cases hc
  rw [e]
  exact upon_in hQ hn _ h
theorem ops_in (hc : ops.all calmB = true) (hQ : ¬ LetsOut Q) : ∀ (is : List Nat) (a : Act) (w : World), wpOps P ops Q is a w → wpOpsIn (Fence.wide.inRound l) n P ops Q is a w
  | [], a, w, h => h
  | i :: is, a, w, h => by
    unfold wpOps at h
    unfold wpOpsIn
    cases ho : ops[i]? with
    | none => rw [ho] at h; exact ops_in hc hQ is a w h
    | some o =>
      rw [ho] at h
      simp only [] at h ⊢
      split
      · rename_i hw
        rw [if_pos hw] at h
        have hco : calmB o = true := by
          rw [Array.all_eq_true] at hc
          obtain ⟨hi, rfl⟩ := Array.getElem?_eq_some_iff.1 ho
          exact hc i hi
        rcases h with h | h
        · exact oper_in hco hQ (fun a w => ops_in hc hQ is a w) h
        · exact absurd h.2 hQ
      · rename_i hw
        rw [if_neg hw] at h
        exact ⟨fun _ _ => trivial, ops_in hc hQ is _ _ h⟩
theorem nq_calm : ¬ LetsOut (NQ Q) := fun ⟨_, _, h⟩ => h
theorem nq_intro (h : Q .normal a w) : NQ Q .normal a w := h
/-- a region, in a round -/
theorem wpIn_reg {id : Nat} {rs : List Oper} (hc : rs.all calmB = true) (h : wpList P rs.toArray (NQ Q) rs a w) : (Code.region id rs.toArray false).wpIn (Fence.wide.inRound l) n P Q a w := by
  refine Go.wpIn_mono (Q := NQ Q) (wpIn_region (ops_in (by simpa using hc) nq_calm _ _ _ ?_)) (fun e a w hq => by cases e <;> first | exact hq | exact hq.elim)
  rw [List.range_eq_range', ← Array.length_toList, wpOps_eq_wpList rs.toArray.toList 0 (by simp)]; exact h
/-- a drawn region, in a round, by the B steps -/
theorem wpIn_region_B (S : World → Prop) {id : Nat} {rs : List Oper} (hc : rs.all calmB = true) (hm : P.follows .mixedOrders = true)
    (h : wpAnyH P .any rs.toArray (NQ Q) S rs.toArray.size (Array.replicate rs.toArray.size false) a w.drew) : (Code.region id rs.toArray true).wpIn (Fence.wide.inRound l) n P Q a w := by
  refine Go.wpIn_mono (Q := NQ Q) (wpIn_region_draw fun t => ops_in (by simpa using hc) nq_calm _ _ _ ?_) (fun e a w hq => by cases e <;> first | exact hq | exact hq.elim)
  simp only [Region.schedule, hm, Bool.true_or, if_true]
  exact wpAny_sound rs.toArray.size t _ a _ (wpAny_of_held _ _ _ _ h)
/-- a drawn region, in a round, in the text's order -/
theorem wpIn_region_text {id : Nat} {rs : List Oper} (hc : rs.all calmB = true) (hm : P.follows .mixedOrders = true) (hchk : chk P rs.toArray = true)
    (h : wpList P rs.toArray (EndQ P rs.toArray Q) rs a w.drew) : (Code.region id rs.toArray true).wpIn (Fence.wide.inRound l) n P Q a w := by
  have key : (Code.region id rs.toArray true).wpIn (Fence.wide.inRound l) n P (EndQ P rs.toArray Q) a w := by
    refine wpIn_region_draw fun t => ops_in (by simpa using hc) (fun ⟨_, _, h⟩ => h) _ _ _ ?_
    simp only [Region.schedule, hm, Bool.true_or, if_true]
    refine wpAny_sound rs.toArray.size t _ a _ ?_
    have hh : wpOps P rs.toArray (EndQ P rs.toArray Q) (List.range rs.toArray.size) a w.drew := by
      rw [List.range_eq_range', ← Array.length_toList, wpOps_eq_wpList rs.toArray.toList 0 (by simp)]; exact h
    have hr := rest_all (ops := rs.toArray)
    refine main hchk (fun e a w hq => by cases e <;> first | rfl | exact hq.elim) (fun a w hq => hq.1) _ _ _ _ (by rw [hr]; simp) ⟨by simp, fun j oj _ hj => ?_⟩ (by rw [hr]; exact hh)
    rw [getD_replicate_false] at hj; cases hj
  exact Go.wpIn_mono key (fun e a w hq => by cases e <;> first | exact hq.2 | exact hq.elim)
end
/-! ### The way out of a function whose loops have left marks -/
section
variable {P : Program} {fn : Func} {R : Ending → World → Prop} {a : Act} {w w0 w1 : World} {D D1 : Nat → Prop} {L : List Ent}
theorem leave1 {k : Nat} {v : Value} (hm : Mark w0 w1 D1 k) (H : Hp w1 D1 L w) (hd : a.defers = [{ target := .collected k, args := #[] }]) (hres : (results fn a.tmps).run P (w.putObj k (.deferred none)) = .ok v (w.putObj k (.deferred none)))
    (h : R (.returned v) (w.putObj k (.deferred none))) : bodyPostM Fence.wide 0 P fn R .ret a w := by
  show LeavesInM _ _ _ _ _ _ _ _ _
  rw [hd]
  refine ⟨by simp, .inl ⟨_, _, rfl, run_takeDeferred (hm.behind H), ?_⟩⟩
  exact ⟨_, hres, h⟩
theorem Mark.shut {k : Nat} (hm : Mark w0 w1 D1 k) (X : Exm w0 D w1 D1) (H : Hp w1 D1 L w) : Hp w0 D L (w.putObj k (.deferred none)) :=
  (X.hp H).putOther _ hm.2.1 (hm.behind H) rfl
/-- .. whose result stands in a cell -/
theorem leave1c {k p i b n : Nat} {agg : Bool} {t : TypeId} {x : Ent} {v : Value} (hm : Mark w0 w1 D1 k) (X : Exm w0 D w1 D1) (H : Hp w1 D1 L w) (hd : a.defers = [{ target := .collected k, args := #[] }]) (hres : fn.results = #[.cell p t])
    (hp : a.tmps.getD p undef = .pointer (some ⟨b, 0, none⟩)) (hi : L[i]? = some x) (hb : x.a = some b) (ht : tI P t = some (agg, n)) (hv : pick agg n x.xs 0 = some v)
    (h : ∀ u, Hp w0 D L u → R (.returned v) u) : bodyPostM Fence.wide 0 P fn R .ret a w := by
  have H2 := hm.shut X H
  refine leave1 hm H hd ?_ (h _ H2)
  have := H2.load hi hb ht hv
  have hp' : a.tmps[p]?.getD undef = .pointer (some ⟨b, 0, none⟩) := by simpa using hp
  simp [results, hres, hp', asAddr, this]
/-- .. whose result stands in a slot -/
theorem leave1t {k p : Nat} {v : Value} (hm : Mark w0 w1 D1 k) (X : Exm w0 D w1 D1) (H : Hp w1 D1 L w) (hd : a.defers = [{ target := .collected k, args := #[] }]) (hres : fn.results = #[.tmp p])
    (hp : a.tmps.getD p undef = v) (h : ∀ u, Hp w0 D L u → R (.returned v) u) : bodyPostM Fence.wide 0 P fn R .ret a w := by
  refine leave1 hm H hd ?_ (h _ (hm.shut X H))
  have hp' : a.tmps[p]?.getD undef = v := by simpa using hp
  simp [results, hres, hp']
end
end Go.Gx
set_option linter.unusedVariables false
set_option linter.unusedSimpArgs false
namespace Go.Gx
open Go.RowKit
section
variable {P : Program} {fn : Func} {R : Ending → World → Prop} {a : Act} {w w0 w1 w2 : World} {D D1 D2 : Nat → Prop} {L : List Ent}
theorem Mark.keep {k : Nat} (h : Mark w0 w1 D1 k) (X : Exm w1 D1 w2 D2) : Mark w0 w2 D2 k := by
  have h1 := X.keep k h.2.2.1 h.1
  exact ⟨h1.1, h.2.1, Nat.lt_of_lt_of_le h.2.2.1 X.size, h1.2.trans h.2.2.2⟩
/-- the way out: two marks -/
theorem leave2 {k1 k2 : Nat} {v : Value} (hne : k1 ≠ k2) (hm1 : Mark w0 w2 D2 k1) (hm2 : Mark w1 w2 D2 k2) (H : Hp w2 D2 L w) (hd : a.defers = [{ target := .collected k2, args := #[] }, { target := .collected k1, args := #[] }])
    (hres : (results fn a.tmps).run P ((w.putObj k2 (.deferred none)).putObj k1 (.deferred none)) = .ok v ((w.putObj k2 (.deferred none)).putObj k1 (.deferred none)))
    (h : R (.returned v) ((w.putObj k2 (.deferred none)).putObj k1 (.deferred none))) : bodyPostM Fence.wide 0 P fn R .ret a w := by
  show LeavesInM _ _ _ _ _ _ _ _ _
  rw [hd]
  refine ⟨by simp, .inl ⟨_, _, rfl, run_takeDeferred (hm2.behind H), ?_⟩⟩
  refine ⟨by simp, .inl ⟨_, _, rfl, run_takeDeferred ((World.putObj_heap_other hne).trans (hm1.behind H)), ?_⟩⟩
  exact ⟨_, hres, h⟩
/-- .. whose result stands in a slot -/
theorem leave2t {k1 k2 p : Nat} {v : Value} (hm1 : Mark w0 w1 D1 k1) (X1 : Exm w0 D w1 D1) (hm2 : Mark w1 w2 D2 k2) (X2 : Exm w1 D1 w2 D2) (H : Hp w2 D2 L w) (hd : a.defers = [{ target := .collected k2, args := #[] }, { target := .collected k1, args := #[] }]) (hres : fn.results = #[.tmp p])
    (hp : a.tmps.getD p undef = v) (h : ∀ u, Hp w0 D L u → R (.returned v) u) : bodyPostM Fence.wide 0 P fn R .ret a w := by
  have hne : k1 ≠ k2 := by have := hm1.2.2.1; have := hm2.2.1; omega
  have hm1' := hm1.keep X2
  have H2 := hm2.shut X2 H
  have H3 : Hp w0 D L ((w.putObj k2 (.deferred none)).putObj k1 (.deferred none)) := by
    refine (X1.hp H2).putOther _ hm1.2.1 ?_ rfl (o := .deferred (some []))
    exact (World.putObj_heap_other hne).trans (hm1'.behind H)
  refine leave2 hne hm1' hm2 H hd ?_ (h _ H3)
  have hp' : a.tmps[p]?.getD undef = v := by simpa using hp
  simp [results, hres, hp']
/-- .. in a cell -/
theorem leave2c {k1 k2 p i b n : Nat} {agg : Bool} {t : TypeId} {x : Ent} {v : Value} (hm1 : Mark w0 w1 D1 k1) (X1 : Exm w0 D w1 D1) (hm2 : Mark w1 w2 D2 k2) (X2 : Exm w1 D1 w2 D2) (H : Hp w2 D2 L w) (hd : a.defers = [{ target := .collected k2, args := #[] }, { target := .collected k1, args := #[] }]) (hres : fn.results = #[.cell p t])
    (hp : a.tmps.getD p undef = .pointer (some ⟨b, 0, none⟩)) (hi : L[i]? = some x) (hb : x.a = some b) (ht : tI P t = some (agg, n)) (hv : pick agg n x.xs 0 = some v) (h : ∀ u, Hp w0 D L u → R (.returned v) u) : bodyPostM Fence.wide 0 P fn R .ret a w := by
  have hne : k1 ≠ k2 := by have := hm1.2.2.1; have := hm2.2.1; omega
  have hm1' := hm1.keep X2
  have H2 := hm2.shut X2 H
  have H3 : Hp w0 D L ((w.putObj k2 (.deferred none)).putObj k1 (.deferred none)) := by
    refine (X1.hp H2).putOther _ hm1.2.1 ?_ rfl (o := .deferred (some []))
    exact (World.putObj_heap_other hne).trans (hm1'.behind H)
  refine leave2 hne hm1' hm2 H hd ?_ (h _ H3)
  have := H3.load hi hb ht hv
  have hp' : a.tmps[p]?.getD undef = .pointer (some ⟨b, 0, none⟩) := by simpa using hp
  simp [results, hres, hp', asAddr, this]
end
/-- the caller's law, where a round goes on or breaks off, and one thing follows -/
theorem wp_rfE {α : Type} {P : Program} {Q : Exit → Act → World → Prop} {a : Act} {w w0 : World} {D : Nat → Prop} {M Z : List Ent} {g : Operand} {ps : Array Tmp} {assign body : Code} (id : Nat)
    (H : Hp w0 D (M ++ Z) w) {gf : Nat} {lb : Array Value} (hg : a.eval g = .func (.func gf) #[] lb) (eg : ∀ args w, (callFunc gf args).run P w = .ok (.enter gf args) w)
    {encs : α → Array Value} {full : List α} (hseq : SeqHp P gf lb encs full (fun u => Hp w0 D Z u)) (hps : ∀ x, (encs x).size = ps.size)
    (I : List α → List Ent → Prop) (Ix : List α → List Ent → Prop) (h0 : I [] M) (hQ : ∀ a w, Q .normal a w → Q (.exit id) a w)
    (a₁ : α → Act)
    (hassign : ∀ (l : Nat) (x : α) (w1 : World) (K : Act → World → Prop), K (a₁ x) w1 →
      assign.wpIn (Fence.wide.inRound l) 0 P (Exit.then K (fun _ _ _ => False)) { tmps := (ps.zip (encs x)).foldl (fun t (p, v) => t.setIfInBounds p v) a.tmps, defers := [] } w1)
    (hbody : ∀ (l : Nat) (pre : List α) (x : α) (post : List α) (L : List Ent) (w1 : World) (D1 : Nat → Prop), full = pre ++ x :: post → I pre L → Exm w0 D w1 D1 → Hp w1 D1 (L ++ Z) w1 →
      (∃ r, w1.heap[l]? = some (.loop r)) → ¬ D1 l → w0.heap.size ≤ l → body.wpIn (Fence.wide.inRound l) 0 P (rfPost w1 D1 Z I (fun c pre L => c = .exit id ∧ Ix pre L) (pre ++ [x])) (a₁ x) w1)
    (hend : ∀ (k : Nat) (pre : List α) (L : List Ent) (w1 : World) (D1 : Nat → Prop), ((pre = full ∧ I pre L) ∨ Ix pre L) → Exm w0 D w1 D1 → Hp w1 D1 (L ++ Z) w1 → Mark w0 w1 D1 k → Q .normal { a with defers := { target := .collected k, args := #[] } :: a.defers } w1) :
    (Code.rangeFunc g ps assign body).wpIn Fence.wide 0 P Q a w :=
  wp_rf1 H hg eg hseq hps I (fun c pre L => c = .exit id ∧ Ix pre L) h0 a₁ hassign hbody
    (fun k L w1 D1 hi X H1 hm => hend k full L w1 D1 (.inl ⟨rfl, hi⟩) X H1 hm)
    (fun k c pre post L w1 D1 hf hi X H1 hm => by
      obtain ⟨rfl, hi⟩ := hi
      exact wpIn_exit (hQ _ _ (hend k pre L w1 D1 (.inr hi) X H1 hm)))
end Go.Gx
set_option linter.unusedVariables false
set_option linter.unusedSimpArgs false
namespace Go.Gx
open Go.RowKit
/-- **the caller's law, within a round of the loop l₀** -/
theorem wp_rfN {α : Type} {P : Program} {Q : Exit → Act → World → Prop} {a : Act} {w w0 : World} {D : Nat → Prop} {M Z : List Ent} {g : Operand} {ps : Array Tmp} {assign body : Code} {l₀ : Nat} {r₀ : Loop} (hl0 : w.heap[l₀]? = some (.loop r₀))
    (H : Hp w0 D (M ++ Z) w) {gf : Nat} {lb : Array Value} (hg : a.eval g = .func (.func gf) #[] lb) (eg : ∀ args w, (callFunc gf args).run P w = .ok (.enter gf args) w)
    {encs : α → Array Value} {full : List α} (hseq : SeqHp P gf lb encs full (fun u => Hp w0 D Z u)) (hps : ∀ x, (encs x).size = ps.size)
    (I : List α → List Ent → Prop) (Ix : Code → List α → List Ent → Prop) (Ax : List α → α → Act → List Ent → Prop) (h0 : I [] M)
    (hassign : ∀ (l : Nat) (pre : List α) (x : α) (post : List α) (L : List Ent) (w1 : World) (D1 : Nat → Prop) (K : Act → World → Prop), full = pre ++ x :: post → I pre L → Exm w0 D w1 D1 → Hp w1 D1 (L ++ Z) w1 →
      (∀ a' L' W', Ax pre x a' L' → Hp w1 D1 (L' ++ Z) W' → K a' W') →
      assign.wpIn (Fence.wide.inRound l) 0 P (Exit.then K (fun _ _ _ => False)) { tmps := (ps.zip (encs x)).foldl (fun t (p, v) => t.setIfInBounds p v) a.tmps, defers := [] } w1)
    (hbody : ∀ (l : Nat) (pre : List α) (x : α) (post : List α) (a' : Act) (L : List Ent) (w1 : World) (D1 : Nat → Prop), full = pre ++ x :: post → Ax pre x a' L → Exm w0 D w1 D1 → Hp w1 D1 (L ++ Z) w1 →
      (∃ r, w1.heap[l]? = some (.loop r)) → ¬ D1 l → w0.heap.size ≤ l → body.wpIn (Fence.wide.inRound l) 0 P (rfPost w1 D1 Z I Ix (pre ++ [x])) a' w1)
    (hdone : ∀ (L : List Ent) (w1 : World) (D1 : Nat → Prop), I full L → Exm w0 D w1 D1 → Hp w1 D1 (L ++ Z) w1 → Q .normal a w1)
    (hstop : ∀ (c : Code) (pre post : List α) (L : List Ent) (w1 : World) (D1 : Nat → Prop), full = pre ++ post → Ix c pre L → Exm w0 D w1 D1 → Hp w1 D1 (L ++ Z) w1 →
      c.wpIn (Fence.wide.inRound l₀) 0 P Q a w1) :
    (Code.rangeFunc g ps assign body).wpIn (Fence.wide.inRound l₀) 0 P Q a w := by
  refine wpIn_rangeFunc ?_
  intro fn hfn
  obtain ⟨rec, hrec⟩ : ∃ rec : LoopState → Option Code → Loop, rec = fun st pe => { state := st, pending := pe, fn, tmps := a.tmps, params := ps, assign, body, defers := r₀.defers } := ⟨_, rfl⟩
  obtain ⟨W1, hW1⟩ : ∃ W1, w.alloc (.loop (rec .ready none)) = W1 := ⟨_, rfl⟩
  have hL1 : W1.heap[w.heap.size]? = some (.loop (rec .ready none)) := by
    rw [← hW1]; exact World.alloc_heap_new w _
  have HW1 : Hp w0 D (M ++ Z) W1 := by rw [← hW1]; exact H.allocOther _
  have hws := H.size
  obtain ⟨N, hN⟩ : ∃ N, w.heap.size = N := ⟨_, rfl⟩
  rw [hN] at hL1 hws
  refine ⟨N, [], W1, { target := .fn (.func gf) lb, args := #[.func (.yield N) #[] #[]] }, W1, gf, #[.func (.yield N) #[] #[]] ++ lb, W1, ?_, ?_, fun f' _ => trivial, ?_, fun h => by simp [Fence.wide] at h, ?_⟩
  · have := run_enterLoop_inner (P := P) hl0 fn a.tmps ps assign body
    rw [hN] at this
    rw [← hW1, hrec]; exact this
  · simp only [resolve, hg]
    simp [go_sem]
  · simp [invoke, go_sem, eg]
  obtain ⟨J, hJ⟩ : ∃ J : List α → World → Prop, J = fun pre u => ∃ L, I pre L ∧ Hp w0 D (L ++ Z) u ∧ u.heap[N]? = some (.loop (rec .ready none)) := ⟨_, rfl⟩
  obtain ⟨Jx, hJx⟩ : ∃ Jx : List α → World → Prop, Jx = fun pre u => ∃ c L, Ix c pre L ∧ Hp w0 D (L ++ Z) u ∧ u.heap[N]? = some (.loop (rec .done (some c))) := ⟨_, rfl⟩
  have old : ∀ {u u' : World} {b : Nat} {o : Obj}, Grow u u' → u.heap[b]? = some o → u'.heap[b]? = some o := fun g h => by
    rw [g.frame _ (Array.getElem?_eq_some_iff.1 h).1 (fun h => h)]; exact h
  refine CallsIn.mono (hseq N J Jx W1 (fun pre u hu => ?_) (fun pre u u' hu hgr => ?_) (fun pre u u' hu hgr => ?_) (fun pre x post u hfull hu => ?_) ?_) ?_
  · rw [hJ] at hu
    obtain ⟨L, _, h, _⟩ := hu
    exact h.dropL
  · rw [hJ] at hu ⊢
    obtain ⟨L, hi, h, hl⟩ := hu
    exact ⟨L, hi, h.grow hgr, old hgr hl⟩
  · rw [hJx] at hu ⊢
    obtain ⟨c, L, hi, h, hl⟩ := hu
    exact ⟨c, L, hi, h.grow hgr, old hgr hl⟩
  · -- one round
    rw [hJ] at hu
    obtain ⟨L, hi, h, hl⟩ := hu
    have hy := run_yield (P := P) (args := encs x) hl (by rw [hrec]; exact hps x)
    rw [hrec] at hy
    obtain ⟨Da, Xa, Ha, na⟩ := h.rebase
    refine ⟨fn, _, assign, body, hy, roundIn_of_wpIn trivial (hassign _ pre x post L u Da _ hfull hi Xa Ha ?_)⟩
    clear hy
    intro a' L' Wa hax HWa
    have hla : Wa.heap[N]? = some (.loop (rec .ready none)) := by
      rw [HWa.frame _ (Array.getElem?_eq_some_iff.1 hl).1 (na _ _ hl rfl (by omega))]; exact hl
    have Hwa0 : Hp w0 D (L' ++ Z) Wa := Xa.hp HWa
    refine ⟨_, run_beginRound hla (by rw [hrec]), ?_⟩
    have hlt : N < Wa.heap.size := (Array.getElem?_eq_some_iff.1 hla).1
    obtain ⟨Wb, hWb⟩ : ∃ Wb, Wa.putObj N (.loop { rec .ready none with state := .busy }) = Wb := ⟨_, rfl⟩
    rw [hWb]
    have Hb0 : Hp w0 D (L' ++ Z) Wb := by rw [← hWb]; exact Hwa0.putOther _ (by omega) hla rfl
    have hlb : Wb.heap[N]? = some (.loop { rec .ready none with state := .busy }) := by rw [← hWb]; exact World.putObj_heap_same hlt
    obtain ⟨Db, Xb, Hb, nb⟩ := Hb0.rebase
    refine wpIn_mono (hbody _ pre x post a' L' Wb Db hfull hax Xb Hb ⟨_, hlb⟩ (nb _ _ hlb rfl (by omega)) (by omega)) ?_
    have fin : ∀ (jump : Option Code) (L3 : List Ent) (W3 : World), Hp Wb Db (L3 ++ Z) W3 →
        (Instr.endRound N jump).run P W3 = .ok (.bool jump.isNone) (W3.putObj N (.loop (rec (if jump.isNone then .ready else .done) jump))) ∧
        Hp w0 D (L3 ++ Z) (W3.putObj N (.loop (rec (if jump.isNone then .ready else .done) jump))) ∧
        (W3.putObj N (.loop (rec (if jump.isNone then .ready else .done) jump))).heap[N]? = some (.loop (rec (if jump.isNone then .ready else .done) jump)) := fun jump L3 W3 H3 => by
      have hl3 : W3.heap[N]? = some (.loop { rec .ready none with state := .busy }) := by
        rw [H3.frame _ (Array.getElem?_eq_some_iff.1 hlb).1 (nb _ _ hlb rfl (by omega))]; exact hlb
      have := run_endRound (P := P) jump hl3
      rw [hrec] at this ⊢
      refine ⟨this, ?_, World.putObj_heap_same (Array.getElem?_eq_some_iff.1 hl3).1⟩
      exact (Xb.hp H3).putOther _ (by omega) hl3 rfl
    rintro e a3 W3 hp
    cases e with
    | normal =>
      obtain ⟨L3, hi3, H3⟩ := hp
      obtain ⟨hr, h3, hl4⟩ := fin none L3 W3 H3
      exact ⟨_, _, hr, .inl ⟨rfl, by rw [hJ]; exact ⟨L3, hi3, h3, hl4⟩⟩⟩
    | ret =>
      obtain ⟨L3, hi3, H3⟩ := hp
      obtain ⟨hr, h3, hl4⟩ := fin (some .ret) L3 W3 H3
      exact ⟨_, _, hr, .inr ⟨rfl, by rw [hJx]; exact ⟨_, L3, hi3, h3, hl4⟩⟩⟩
    | exit id =>
      obtain ⟨L3, hi3, H3⟩ := hp
      obtain ⟨hr, h3, hl4⟩ := fin (some (.exit id)) L3 W3 H3
      exact ⟨_, _, hr, .inr ⟨rfl, by rw [hJx]; exact ⟨_, L3, hi3, h3, hl4⟩⟩⟩
    | goto t =>
      obtain ⟨L3, hi3, H3⟩ := hp
      obtain ⟨hr, h3, hl4⟩ := fin (some (.goto t)) L3 W3 H3
      exact ⟨_, _, hr, .inr ⟨rfl, by rw [hJx]; exact ⟨_, L3, hi3, h3, hl4⟩⟩⟩
    | panic ch => exact hp.elim
    | outgrown => exact hp.elim
  · rw [hJ]; exact ⟨M, h0, HW1, hL1⟩
  · -- behind the iterator
    have after : ∀ (st : LoopState) (pe : Option Code) (L : List Ent) (u : World), st ≠ .busy → Hp w0 D (L ++ Z) u → u.heap[N]? = some (.loop (rec st pe)) →
        ∃ u' D1, (Instr.endLoop N).run P u = .ok pe u' ∧ Exm w0 D u' D1 ∧ Hp u' D1 (L ++ Z) u' := fun st pe L u hst h hl => by
      have hr := run_endLoop (P := P) hl (by rw [hrec]; exact hst)
      have h' : Hp w0 D (L ++ Z) (u.putObj N (.loop { rec st pe with state := .exhausted })) := h.putOther _ (by omega) hl rfl
      obtain ⟨D1, X, H1, n1⟩ := h'.rebase
      refine ⟨_, D1, ?_, X, H1⟩
      rw [hr, hrec]
    rintro e W2 ⟨⟨v, rfl⟩, hh⟩
    rcases hh with hh | ⟨pre, post, hfull, hh⟩
    · rw [hJ] at hh
      obtain ⟨L, hi, h, hl⟩ := hh
      obtain ⟨u', D1, hr, X, H1⟩ := after _ _ L W2 (by simp) h hl
      exact ⟨none, u', hr, hdone L u' D1 hi X H1⟩
    · rw [hJx] at hh
      obtain ⟨c, L, hi, h, hl⟩ := hh
      obtain ⟨u', D1, hr, X, H1⟩ := after _ _ L W2 (by simp) h hl
      exact ⟨some c, u', hr, hstop c pre post L u' D1 hfull hi X H1⟩
/-- the same, where the loop's left sides are plain slots -/
theorem wp_rfN1 {α : Type} {P : Program} {Q : Exit → Act → World → Prop} {a : Act} {w w0 : World} {D : Nat → Prop} {M Z : List Ent} {g : Operand} {ps : Array Tmp} {assign body : Code} {l₀ : Nat} {r₀ : Loop} (hl0 : w.heap[l₀]? = some (.loop r₀))
    (H : Hp w0 D (M ++ Z) w) {gf : Nat} {lb : Array Value} (hg : a.eval g = .func (.func gf) #[] lb) (eg : ∀ args w, (callFunc gf args).run P w = .ok (.enter gf args) w)
    {encs : α → Array Value} {full : List α} (hseq : SeqHp P gf lb encs full (fun u => Hp w0 D Z u)) (hps : ∀ x, (encs x).size = ps.size)
    (I : List α → List Ent → Prop) (Ix : Code → List α → List Ent → Prop) (h0 : I [] M) (a₁ : α → Act)
    (hassign : ∀ (l : Nat) (x : α) (w1 : World) (K : Act → World → Prop), K (a₁ x) w1 →
      assign.wpIn (Fence.wide.inRound l) 0 P (Exit.then K (fun _ _ _ => False)) { tmps := (ps.zip (encs x)).foldl (fun t (p, v) => t.setIfInBounds p v) a.tmps, defers := [] } w1)
    (hbody : ∀ (l : Nat) (pre : List α) (x : α) (post : List α) (L : List Ent) (w1 : World) (D1 : Nat → Prop), full = pre ++ x :: post → I pre L → Exm w0 D w1 D1 → Hp w1 D1 (L ++ Z) w1 →
      body.wpIn (Fence.wide.inRound l) 0 P (rfPost w1 D1 Z I Ix (pre ++ [x])) (a₁ x) w1)
    (hdone : ∀ (L : List Ent) (w1 : World) (D1 : Nat → Prop), I full L → Exm w0 D w1 D1 → Hp w1 D1 (L ++ Z) w1 → Q .normal a w1)
    (hstop : ∀ (c : Code) (pre post : List α) (L : List Ent) (w1 : World) (D1 : Nat → Prop), full = pre ++ post → Ix c pre L → Exm w0 D w1 D1 → Hp w1 D1 (L ++ Z) w1 →
      c.wpIn (Fence.wide.inRound l₀) 0 P Q a w1) :
    (Code.rangeFunc g ps assign body).wpIn (Fence.wide.inRound l₀) 0 P Q a w :=
  wp_rfN hl0 H hg eg hseq hps I Ix (fun pre x a' L => a' = a₁ x ∧ I pre L) h0 (fun l pre x post L w1 D1 K _ hi _ H1 hK => hassign l x w1 K (hK _ _ _ ⟨rfl, hi⟩ H1))
    (fun l pre x post a' L w1 D1 hfull hi X H1 _ _ _ => by obtain ⟨rfl, hi⟩ := hi; exact hbody l pre x post L w1 D1 hfull hi X H1) hdone hstop
end Go.Gx
set_option linter.unusedVariables false
set_option linter.unusedSimpArgs false
namespace Go.Gx
open Go.RowKit
section
variable {P : Program} {l : List Oper} {Q : Exit → Act → World → Prop} {fuel : Nat} {listed : Array Bool} {a : Act} {w : World} {K : Act → World → Prop}
abbrev anyC (P : Program) (l : List Oper) (Q : Exit → Act → World → Prop) (fuel : Nat) (listed : Array Bool) (a : Act) (w : World) : Prop := wpAnyIn Fence.wide 0 P .any l.toArray (NQ Q) fuel listed a w
theorem wpC_region {id : Nat} (hm : P.follows .mixedOrders = true) (h : anyC P l Q l.toArray.size (Array.replicate l.toArray.size false) a w.drew) : (Code.region id l.toArray true).wpIn Fence.wide 0 P Q a w :=
  Go.wpIn_mono (Q := NQ Q) (wpIn_region_any hm h) (fun e a w hq => by cases e <;> first | exact hq | exact hq.elim)
theorem cTake (i : Nat) {o : Oper} {v : Value} (hi : l[i]? = some o) (hf : (Region.noSelect l.toArray && Region.free .any l.toArray listed i && (Region.ready .any l.toArray listed).contains i) = true)
    (hw : Region.wanted o (yielded l.toArray a.tmps) = true) (hv : ∀ u, (execOp a.eval o).run P u = .ok (.value v) u) (ha : ∀ u, o.about P u a.eval = none)
    (h : anyC P l Q fuel (listed.setIfInBounds i true) (a.put o.dst v) w) : anyC P l Q (fuel + 1) listed a w := by
  simp only [Bool.and_eq_true] at hf
  exact wpAnyIn_take rfl (by simpa using hi) hf.1.1 hf.1.2 hf.2 (fun c a w h => h.elim) ⟨.inl ⟨hw, hv⟩, ha⟩ h
theorem cSkip (i : Nat) {o : Oper} (hi : l[i]? = some o) (hf : (Region.noSelect l.toArray && Region.free .any l.toArray listed i && (Region.ready .any l.toArray listed).contains i) = true)
    (hw : Region.wanted o (yielded l.toArray a.tmps) = false) (ha : ∀ u, o.about P u a.eval = none)
    (h : anyC P l Q fuel (listed.setIfInBounds i true) (a.put o.dst undef) w) : anyC P l Q (fuel + 1) listed a w := by
  simp only [Bool.and_eq_true] at hf
  exact wpAnyIn_take rfl (by simpa using hi) hf.1.1 hf.1.2 hf.2 (fun c a w h => h.elim) ⟨.inr ⟨hw, rfl⟩, ha⟩ h
theorem cOne (i : Nat) {o : Oper} (hr : Region.ready .any l.toArray listed = [i]) (hi : l[i]? = some o) (hw : Region.wanted o (yielded l.toArray a.tmps) = true)
    (h : o.wpIn Fence.wide 0 P a w (anyC P l Q fuel (listed.setIfInBounds i true)) (NQ Q)) : anyC P l Q (fuel + 1) listed a w := by
  refine wpAnyIn_all hr (by simp) fun j hj => ?_
  obtain rfl : j = i := by simpa using hj
  have hi' : l.toArray[j]? = some o := by simpa using hi
  unfold wpOpIn
  simp only [hi', hw, if_true]
  exact h
theorem cSkip1 (i : Nat) {o : Oper} (hr : Region.ready .any l.toArray listed = [i]) (hi : l[i]? = some o) (hw : Region.wanted o (yielded l.toArray a.tmps) = false)
    (h : anyC P l Q fuel (listed.setIfInBounds i true) (a.put o.dst undef) w) : anyC P l Q (fuel + 1) listed a w := by
  refine wpAnyIn_all hr (by simp) fun j hj => ?_
  obtain rfl : j = i := by simpa using hj
  have hi' : l.toArray[j]? = some o := by simpa using hi
  unfold wpOpIn
  simp only [hi', hw]
  exact ⟨fun _ _ => trivial, h⟩
theorem cTwo (i j : Nat) {o o' : Oper} (hr : Region.ready .any l.toArray listed = [i, j]) (hi : l[i]? = some o) (hj : l[j]? = some o') (hw : Region.wanted o (yielded l.toArray a.tmps) = true) (hw' : Region.wanted o' (yielded l.toArray a.tmps) = true)
    (h : o.wpIn Fence.wide 0 P a w (anyC P l Q fuel (listed.setIfInBounds i true)) (NQ Q)) (h' : o'.wpIn Fence.wide 0 P a w (anyC P l Q fuel (listed.setIfInBounds j true)) (NQ Q)) : anyC P l Q (fuel + 1) listed a w := by
  refine wpAnyIn_all hr (by simp) fun k hk => ?_
  have : k = i ∨ k = j := by simpa using hk
  have hi' : l.toArray[i]? = some o := by simpa using hi
  have hj' : l.toArray[j]? = some o' := by simpa using hj
  rcases this with rfl | rfl
  · unfold wpOpIn
    simp only [hi', hw, if_true]
    exact h
  · unfold wpOpIn
    simp only [hj', hw', if_true]
    exact h'
theorem cDone (hr : Region.ready .any l.toArray listed = []) (h : Q .normal a w) : anyC P l Q fuel listed a w := wpAnyIn_done (Q := NQ Q) hr h fuel
theorem c_run {o : Oper} {v : Value} {w' : World} (hr : (execOp a.eval o).run P w = .ok (.value v) w') (k : K (a.put o.dst v) w') : o.wpIn Fence.wide 0 P a w K (NQ Q) := by
  refine ⟨fun _ _ => trivial, ?_⟩
  show o.uponIn _ _ _ _ _ _ ((execOp a.eval o).run P w)
  rw [hr]; exact k
theorem c_call {o : Oper} {f : FuncId} {args : Array Value} {R : Ending → World → Prop} (hr : (execOp a.eval o).run P w = .ok (.enter f args) w) (h : CallsIn Fence.wide 0 P f args w R)
    (k : ∀ e w', R e w' → ∃ v, e = .returned v ∧ K (a.put o.dst v) w') : o.wpIn Fence.wide 0 P a w K (NQ Q) := by
  refine ⟨fun _ _ => trivial, ?_⟩
  show o.uponIn _ _ _ _ _ _ ((execOp a.eval o).run P w)
  rw [hr]
  refine ⟨fun h => by simp [Fence.wide] at h, (h.mono fun e w' hR => ?_)⟩
  obtain ⟨v, rfl, hk⟩ := k e w' hR
  exact hk
theorem c_round {o : Oper} {r : Nat} {fn : FuncId} {tmps : Array Value} {assign body : Code} {R : Ending → World → Prop} (hr : (execOp a.eval o).run P w = .ok (.round r fn tmps assign body) w) (h : RoundIn Fence.wide 0 P r fn tmps assign body w R)
    (k : ∀ e w', R e w' → ∃ v, e = .returned v ∧ K (a.put o.dst v) w') : o.wpIn Fence.wide 0 P a w K (NQ Q) := by
  refine ⟨fun _ _ => trivial, ?_⟩
  show o.uponIn _ _ _ _ _ _ ((execOp a.eval o).run P w)
  rw [hr]
  refine ⟨fun h => by simp [Fence.wide] at h, (h.mono fun e w' hR => ?_)⟩
  obtain ⟨v, rfl, hk⟩ := k e w' hR
  exact hk
end
end Go.Gx
set_option linter.unusedVariables false
set_option linter.unusedSimpArgs false
namespace Go.Gx
open Go.RowKit
theorem Hp.keptMi {w0 w : World} {D : Nat → Prop} {M N R : List Ent} (H : Hp w0 D (M ++ (N ++ R)) w) : Hp w0 D (M ++ R) w := (Hp.swap (A := M) (B := N) H).dropL
/-- the iterator's contract: N, the entries of its own -/
def SeqG {α : Type} (P : Program) (gf : Nat) (lb : Array Value) (encs : α → Array Value) (full : List α) (Z : List Ent) : Prop :=
  ∀ (l : Nat) (J : List Ent → List α → World → Prop) (Jx : List α → World → Prop) (W : World),
    (∀ N pre u, J N pre u → ∃ w1 D1 A, Hp w1 D1 (A ++ (N ++ Z)) u ∧ ∀ N' u', Hp w1 D1 (A ++ (N' ++ Z)) u' → J N' pre u') → (∀ pre u u', Jx pre u → Grow u u' → Jx pre u') →
    (∀ N pre x post u, full = pre ++ x :: post → J N pre u → YieldAt Fence.wide 0 P l (encs x) u fun e u' => (e = .returned (.bool true) ∧ J N (pre ++ [x]) u') ∨ (e = .returned (.bool false) ∧ Jx (pre ++ [x]) u')) →
    J [] [] W →
    CallsIn Fence.wide 0 P gf (#[.func (.yield l) #[] #[]] ++ lb) W fun e u' => (∃ v, e = .returned v) ∧ ((∃ N, J N full u') ∨ ∃ pre post, full = pre ++ post ∧ Jx pre u')
/-- **the caller's law** -/
theorem wp_rfG {α : Type} {P : Program} {Q : Exit → Act → World → Prop} {a : Act} {w w0 : World} {D : Nat → Prop} {M Z : List Ent} {g : Operand} {ps : Array Tmp} {assign body : Code}
    (H : Hp w0 D (M ++ Z) w) {gf : Nat} {lb : Array Value} (hg : a.eval g = .func (.func gf) #[] lb) (eg : ∀ args w, (callFunc gf args).run P w = .ok (.enter gf args) w)
    {encs : α → Array Value} {full : List α} (hseq : SeqG P gf lb encs full Z) (hps : ∀ x, (encs x).size = ps.size)
    (I : List α → List Ent → Prop) (Ix : Code → List α → List Ent → Prop) (Ax : List α → α → Act → List Ent → Prop) (h0 : I [] M)
    (hassign : ∀ (l : Nat) (pre : List α) (x : α) (post : List α) (N9 L : List Ent) (w1 : World) (D1 : Nat → Prop) (K : Act → World → Prop), full = pre ++ x :: post → I pre L → Exm w0 D w1 D1 → Hp w1 D1 (L ++ (N9 ++ Z)) w1 →
      (∀ a' L' W', Ax pre x a' L' → Hp w1 D1 (L' ++ (N9 ++ Z)) W' → K a' W') →
      assign.wpIn (Fence.wide.inRound l) 0 P (Exit.then K (fun _ _ _ => False)) { tmps := (ps.zip (encs x)).foldl (fun t (p, v) => t.setIfInBounds p v) a.tmps, defers := [] } w1)
    (hbody : ∀ (l : Nat) (pre : List α) (x : α) (post : List α) (a' : Act) (N9 L : List Ent) (w1 : World) (D1 : Nat → Prop), full = pre ++ x :: post → Ax pre x a' L → Exm w0 D w1 D1 → Hp w1 D1 (L ++ (N9 ++ Z)) w1 →
      (∃ r, w1.heap[l]? = some (.loop r)) → ¬ D1 l → w0.heap.size ≤ l → body.wpIn (Fence.wide.inRound l) 0 P (rfPost w1 D1 (N9 ++ Z) I Ix (pre ++ [x])) a' w1)
    (hdone : ∀ (k : Nat) (L : List Ent) (w1 : World) (D1 : Nat → Prop), I full L → Exm w0 D w1 D1 → Hp w1 D1 (L ++ Z) w1 → Mark w0 w1 D1 k → Q .normal { a with defers := { target := .collected k, args := #[] } :: a.defers } w1)
    (hstop : ∀ (k : Nat) (c : Code) (pre post : List α) (L : List Ent) (w1 : World) (D1 : Nat → Prop), full = pre ++ post → Ix c pre L → Exm w0 D w1 D1 → Hp w1 D1 (L ++ Z) w1 → Mark w0 w1 D1 k →
      c.wpIn Fence.wide 0 P Q { a with defers := { target := .collected k, args := #[] } :: a.defers } w1) :
    (Code.rangeFunc g ps assign body).wpIn Fence.wide 0 P Q a w := by
  refine wpIn_rangeFunc ?_
  intro fn hfn
  obtain ⟨rec, hrec⟩ : ∃ rec : LoopState → Option Code → Loop, rec = fun st pe => { state := st, pending := pe, fn, tmps := a.tmps, params := ps, assign, body, defers := w.heap.size } := ⟨_, rfl⟩
  obtain ⟨W1, hW1⟩ : ∃ W1, (w.alloc (.deferred (some []))).alloc (.loop (rec .ready none)) = W1 := ⟨_, rfl⟩
  have hL1 : W1.heap[w.heap.size + 1]? = some (.loop (rec .ready none)) := by
    rw [← hW1]; have := World.alloc_heap_new (w.alloc (.deferred (some []))) (.loop (rec .ready none)); rwa [World.size_alloc] at this
  have hK1 : W1.heap[w.heap.size]? = some (.deferred (some [])) := by
    rw [← hW1, heap_alloc_old _ _ (by simp)]; exact World.alloc_heap_new w _
  have HW1 : Hp w0 D (M ++ Z) W1 := by rw [← hW1]; exact (H.allocOther _).allocOther _
  have hws := H.size
  obtain ⟨N, hN⟩ : ∃ N, w.heap.size = N := ⟨_, rfl⟩
  rw [hN] at hL1 hK1 hws hrec
  refine ⟨N + 1, [{ target := .collected N, args := #[] }], W1, { target := .fn (.func gf) lb, args := #[.func (.yield (N + 1)) #[] #[]] }, W1, gf, #[.func (.yield (N + 1)) #[] #[]] ++ lb, W1, ?_, ?_, fun f' _ => trivial, ?_, fun h => by simp [Fence.wide] at h, ?_⟩
  · have := run_enterLoop_outer (P := P) (w := w) fn a.tmps ps assign body
    rw [hN] at this
    rw [← hW1, hrec]; exact this
  · simp only [resolve, hg]
    simp [go_sem]
  · simp [invoke, go_sem, eg]
  obtain ⟨J, hJ⟩ : ∃ J : List Ent → List α → World → Prop, J = fun N9 pre u => ∃ L, I pre L ∧ Hp w0 D (L ++ (N9 ++ Z)) u ∧ u.heap[N + 1]? = some (.loop (rec .ready none)) ∧ u.heap[N]? = some (.deferred (some [])) := ⟨_, rfl⟩
  obtain ⟨Jx, hJx⟩ : ∃ Jx : List α → World → Prop, Jx = fun pre u => ∃ c L, Ix c pre L ∧ Hp w0 D (L ++ Z) u ∧ u.heap[N + 1]? = some (.loop (rec .done (some c))) ∧ u.heap[N]? = some (.deferred (some [])) := ⟨_, rfl⟩
  have old : ∀ {u u' : World} {b : Nat} {o : Obj}, Grow u u' → u.heap[b]? = some o → u'.heap[b]? = some o := fun g h => by
    rw [g.frame _ (Array.getElem?_eq_some_iff.1 h).1 (fun h => h)]; exact h
  refine CallsIn.mono (hseq (N + 1) J Jx W1 (fun N9 pre u hu => ?_) (fun pre u u' hu hgr => ?_) (fun N9 pre x post u hfull hu => ?_) ?_) ?_
  · rw [hJ] at hu
    obtain ⟨L, hi, h, hl, hk⟩ := hu
    obtain ⟨Da, Xa, Ha, na⟩ := h.rebase
    refine ⟨u, Da, L, Ha, fun N8 u' h8 => ?_⟩
    rw [hJ]
    exact ⟨L, hi, Xa.hp h8, by rw [h8.frame _ (Array.getElem?_eq_some_iff.1 hl).1 (na _ _ hl rfl (by omega))]; exact hl, by rw [h8.frame _ (Array.getElem?_eq_some_iff.1 hk).1 (na _ _ hk rfl (by omega))]; exact hk⟩
  · rw [hJx] at hu ⊢
    obtain ⟨c, L, hi, h, hl, hk⟩ := hu
    exact ⟨c, L, hi, h.grow hgr, old hgr hl, old hgr hk⟩
  · -- one round
    rw [hJ] at hu
    obtain ⟨L, hi, h, hl, hk⟩ := hu
    have hy := run_yield (P := P) (args := encs x) hl (by rw [hrec]; exact hps x)
    rw [hrec] at hy
    obtain ⟨Da, Xa, Ha, na⟩ := h.rebase
    refine ⟨fn, _, assign, body, hy, roundIn_of_wpIn trivial (hassign _ pre x post N9 L u Da _ hfull hi Xa Ha ?_)⟩
    clear hy
    intro a' L' Wa hax HWa
    have hla : Wa.heap[N + 1]? = some (.loop (rec .ready none)) := by
      rw [HWa.frame _ (Array.getElem?_eq_some_iff.1 hl).1 (na _ _ hl rfl (by omega))]; exact hl
    have hka : Wa.heap[N]? = some (.deferred (some [])) := by
      rw [HWa.frame _ (Array.getElem?_eq_some_iff.1 hk).1 (na _ _ hk rfl (by omega))]; exact hk
    have Hwa0 : Hp w0 D (L' ++ (N9 ++ Z)) Wa := Xa.hp HWa
    refine ⟨_, run_beginRound hla (by rw [hrec]), ?_⟩
    have hlt : N + 1 < Wa.heap.size := (Array.getElem?_eq_some_iff.1 hla).1
    obtain ⟨Wb, hWb⟩ : ∃ Wb, Wa.putObj (N + 1) (.loop { rec .ready none with state := .busy }) = Wb := ⟨_, rfl⟩
    rw [hWb]
    have Hb0 : Hp w0 D (L' ++ (N9 ++ Z)) Wb := by rw [← hWb]; exact Hwa0.putOther _ (by omega) hla rfl
    have hlb : Wb.heap[N + 1]? = some (.loop { rec .ready none with state := .busy }) := by rw [← hWb]; exact World.putObj_heap_same hlt
    have hkb : Wb.heap[N]? = some (.deferred (some [])) := by rw [← hWb, World.putObj_heap_other (by omega)]; exact hka
    obtain ⟨Db, Xb, Hb, nb⟩ := Hb0.rebase
    refine wpIn_mono (hbody _ pre x post a' N9 L' Wb Db hfull hax Xb Hb ⟨_, hlb⟩ (nb _ _ hlb rfl (by omega)) (by omega)) ?_
    have fin : ∀ (jump : Option Code) (L3 : List Ent) (W3 : World), Hp Wb Db (L3 ++ (N9 ++ Z)) W3 →
        (Instr.endRound (N + 1) jump).run P W3 = .ok (.bool jump.isNone) (W3.putObj (N + 1) (.loop (rec (if jump.isNone then .ready else .done) jump))) ∧
        Hp w0 D (L3 ++ (N9 ++ Z)) (W3.putObj (N + 1) (.loop (rec (if jump.isNone then .ready else .done) jump))) ∧
        (W3.putObj (N + 1) (.loop (rec (if jump.isNone then .ready else .done) jump))).heap[N + 1]? = some (.loop (rec (if jump.isNone then .ready else .done) jump)) ∧
        (W3.putObj (N + 1) (.loop (rec (if jump.isNone then .ready else .done) jump))).heap[N]? = some (.deferred (some [])) := fun jump L3 W3 H3 => by
      have hl3 : W3.heap[N + 1]? = some (.loop { rec .ready none with state := .busy }) := by
        rw [H3.frame _ (Array.getElem?_eq_some_iff.1 hlb).1 (nb _ _ hlb rfl (by omega))]; exact hlb
      have hk3 : W3.heap[N]? = some (.deferred (some [])) := by
        rw [H3.frame _ (Array.getElem?_eq_some_iff.1 hkb).1 (nb _ _ hkb rfl (by omega))]; exact hkb
      have := run_endRound (P := P) jump hl3
      rw [hrec] at this ⊢
      refine ⟨this, ?_, World.putObj_heap_same (Array.getElem?_eq_some_iff.1 hl3).1, (World.putObj_heap_other (by omega)).trans hk3⟩
      exact (Xb.hp H3).putOther _ (by omega) hl3 rfl
    rintro e a3 W3 hp
    cases e with
    | normal =>
      obtain ⟨L3, hi3, H3⟩ := hp
      obtain ⟨hr, h3, hl4, hk4⟩ := fin none L3 W3 H3
      exact ⟨_, _, hr, .inl ⟨rfl, by rw [hJ]; exact ⟨L3, hi3, h3, hl4, hk4⟩⟩⟩
    | ret =>
      obtain ⟨L3, hi3, H3⟩ := hp
      obtain ⟨hr, h3, hl4, hk4⟩ := fin (some .ret) L3 W3 H3
      exact ⟨_, _, hr, .inr ⟨rfl, by rw [hJx]; exact ⟨_, L3, hi3, h3.keptMi, hl4, hk4⟩⟩⟩
    | exit id =>
      obtain ⟨L3, hi3, H3⟩ := hp
      obtain ⟨hr, h3, hl4, hk4⟩ := fin (some (.exit id)) L3 W3 H3
      exact ⟨_, _, hr, .inr ⟨rfl, by rw [hJx]; exact ⟨_, L3, hi3, h3.keptMi, hl4, hk4⟩⟩⟩
    | goto t =>
      obtain ⟨L3, hi3, H3⟩ := hp
      obtain ⟨hr, h3, hl4, hk4⟩ := fin (some (.goto t)) L3 W3 H3
      exact ⟨_, _, hr, .inr ⟨rfl, by rw [hJx]; exact ⟨_, L3, hi3, h3.keptMi, hl4, hk4⟩⟩⟩
    | panic ch => exact hp.elim
    | outgrown => exact hp.elim
  · rw [hJ]; exact ⟨M, h0, HW1, hL1, hK1⟩
  · -- behind the iterator
    have after : ∀ (st : LoopState) (pe : Option Code) (L : List Ent) (u : World), st ≠ .busy → Hp w0 D (L ++ Z) u → u.heap[N + 1]? = some (.loop (rec st pe)) → u.heap[N]? = some (.deferred (some [])) →
        ∃ u' D1, (Instr.endLoop (N + 1)).run P u = .ok pe u' ∧ Exm w0 D u' D1 ∧ Hp u' D1 (L ++ Z) u' ∧ Mark w0 u' D1 N := fun st pe L u hst h hl hk => by
      have hr := run_endLoop (P := P) hl (by rw [hrec]; exact hst)
      have h' : Hp w0 D (L ++ Z) (u.putObj (N + 1) (.loop { rec st pe with state := .exhausted })) := h.putOther _ (by omega) hl rfl
      have hk' : (u.putObj (N + 1) (.loop { rec st pe with state := .exhausted })).heap[N]? = some (.deferred (some [])) := (World.putObj_heap_other (by omega)).trans hk
      obtain ⟨D1, X, H1, n1⟩ := h'.rebase
      refine ⟨_, D1, ?_, X, H1, n1 _ _ hk' rfl (by omega), by omega, (Array.getElem?_eq_some_iff.1 hk').1, hk'⟩
      rw [hr, hrec]
    rintro e W2 ⟨⟨v, rfl⟩, hh⟩
    rcases hh with hh | ⟨pre, post, hfull, hh⟩
    · obtain ⟨N9, hh⟩ := hh
      rw [hJ] at hh
      obtain ⟨L, hi, h, hl, hk⟩ := hh
      obtain ⟨u', D1, hr, X, H1, hm⟩ := after _ _ L W2 (by simp) h.keptMi hl hk
      exact ⟨none, u', hr, hdone N L u' D1 hi X H1 hm⟩
    · rw [hJx] at hh
      obtain ⟨c, L, hi, h, hl, hk⟩ := hh
      obtain ⟨u', D1, hr, X, H1, hm⟩ := after _ _ L W2 (by simp) h hl hk
      exact ⟨some c, u', hr, hstop N c pre post L u' D1 hfull hi X H1 hm⟩
/-- the same, where the loop's left sides are plain slots -/
theorem wp_rfG1 {α : Type} {P : Program} {Q : Exit → Act → World → Prop} {a : Act} {w w0 : World} {D : Nat → Prop} {M Z : List Ent} {g : Operand} {ps : Array Tmp} {assign body : Code}
    (H : Hp w0 D (M ++ Z) w) {gf : Nat} {lb : Array Value} (hg : a.eval g = .func (.func gf) #[] lb) (eg : ∀ args w, (callFunc gf args).run P w = .ok (.enter gf args) w)
    {encs : α → Array Value} {full : List α} (hseq : SeqG P gf lb encs full Z) (hps : ∀ x, (encs x).size = ps.size)
    (I : List α → List Ent → Prop) (Ix : Code → List α → List Ent → Prop) (h0 : I [] M) (a₁ : α → Act)
    (hassign : ∀ (l : Nat) (x : α) (w1 : World) (K : Act → World → Prop), K (a₁ x) w1 →
      assign.wpIn (Fence.wide.inRound l) 0 P (Exit.then K (fun _ _ _ => False)) { tmps := (ps.zip (encs x)).foldl (fun t (p, v) => t.setIfInBounds p v) a.tmps, defers := [] } w1)
    (hbody : ∀ (l : Nat) (pre : List α) (x : α) (post : List α) (N9 L : List Ent) (w1 : World) (D1 : Nat → Prop), full = pre ++ x :: post → I pre L → Exm w0 D w1 D1 → Hp w1 D1 (L ++ (N9 ++ Z)) w1 →
      (∃ r, w1.heap[l]? = some (.loop r)) → ¬ D1 l → w0.heap.size ≤ l → body.wpIn (Fence.wide.inRound l) 0 P (rfPost w1 D1 (N9 ++ Z) I Ix (pre ++ [x])) (a₁ x) w1)
    (hdone : ∀ (k : Nat) (L : List Ent) (w1 : World) (D1 : Nat → Prop), I full L → Exm w0 D w1 D1 → Hp w1 D1 (L ++ Z) w1 → Mark w0 w1 D1 k → Q .normal { a with defers := { target := .collected k, args := #[] } :: a.defers } w1)
    (hstop : ∀ (k : Nat) (c : Code) (pre post : List α) (L : List Ent) (w1 : World) (D1 : Nat → Prop), full = pre ++ post → Ix c pre L → Exm w0 D w1 D1 → Hp w1 D1 (L ++ Z) w1 → Mark w0 w1 D1 k →
      c.wpIn Fence.wide 0 P Q { a with defers := { target := .collected k, args := #[] } :: a.defers } w1) :
    (Code.rangeFunc g ps assign body).wpIn Fence.wide 0 P Q a w :=
  wp_rfG H hg eg hseq hps I Ix (fun pre x a' L => a' = a₁ x ∧ I pre L) h0 (fun l pre x post N9 L w1 D1 K _ hi _ H1 hK => hassign l x w1 K (hK _ _ _ ⟨rfl, hi⟩ H1))
    (fun l pre x post a' N9 L w1 D1 hfull hi X H1 hr hnd hle => by obtain ⟨rfl, hi⟩ := hi; exact hbody l pre x post N9 L w1 D1 hfull hi X H1 hr hnd hle) hdone hstop
/-- the caller's law, where a round goes on or breaks off, and one thing follows -/
theorem wp_rfGE {α : Type} {P : Program} {Q : Exit → Act → World → Prop} {a : Act} {w w0 : World} {D : Nat → Prop} {M Z : List Ent} {g : Operand} {ps : Array Tmp} {assign body : Code} (id : Nat)
    (H : Hp w0 D (M ++ Z) w) {gf : Nat} {lb : Array Value} (hg : a.eval g = .func (.func gf) #[] lb) (eg : ∀ args w, (callFunc gf args).run P w = .ok (.enter gf args) w)
    {encs : α → Array Value} {full : List α} (hseq : SeqG P gf lb encs full Z) (hps : ∀ x, (encs x).size = ps.size)
    (I : List α → List Ent → Prop) (Ix : List α → List Ent → Prop) (h0 : I [] M) (hQ : ∀ a w, Q .normal a w → Q (.exit id) a w)
    (a₁ : α → Act)
    (hassign : ∀ (l : Nat) (x : α) (w1 : World) (K : Act → World → Prop), K (a₁ x) w1 →
      assign.wpIn (Fence.wide.inRound l) 0 P (Exit.then K (fun _ _ _ => False)) { tmps := (ps.zip (encs x)).foldl (fun t (p, v) => t.setIfInBounds p v) a.tmps, defers := [] } w1)
    (hbody : ∀ (l : Nat) (pre : List α) (x : α) (post : List α) (N9 L : List Ent) (w1 : World) (D1 : Nat → Prop), full = pre ++ x :: post → I pre L → Exm w0 D w1 D1 → Hp w1 D1 (L ++ (N9 ++ Z)) w1 →
      (∃ r, w1.heap[l]? = some (.loop r)) → ¬ D1 l → w0.heap.size ≤ l → body.wpIn (Fence.wide.inRound l) 0 P (rfPost w1 D1 (N9 ++ Z) I (fun c pre L => c = .exit id ∧ Ix pre L) (pre ++ [x])) (a₁ x) w1)
    (hend : ∀ (k : Nat) (pre : List α) (L : List Ent) (w1 : World) (D1 : Nat → Prop), ((pre = full ∧ I pre L) ∨ Ix pre L) → Exm w0 D w1 D1 → Hp w1 D1 (L ++ Z) w1 → Mark w0 w1 D1 k → Q .normal { a with defers := { target := .collected k, args := #[] } :: a.defers } w1) :
    (Code.rangeFunc g ps assign body).wpIn Fence.wide 0 P Q a w :=
  wp_rfG1 H hg eg hseq hps I (fun c pre L => c = .exit id ∧ Ix pre L) h0 a₁ hassign hbody
    (fun k L w1 D1 hi X H1 hm => hend k full L w1 D1 (.inl ⟨rfl, hi⟩) X H1 hm)
    (fun k c pre post L w1 D1 hf hi X H1 hm => by
      obtain ⟨rfl, hi⟩ := hi
      exact wpIn_exit (hQ _ _ (hend k pre L w1 D1 (.inr hi) X H1 hm)))
/-- **the caller's law, within a round of the loop l₀** -/
theorem wp_rfGN {α : Type} {P : Program} {Q : Exit → Act → World → Prop} {a : Act} {w w0 : World} {D : Nat → Prop} {M Z : List Ent} {g : Operand} {ps : Array Tmp} {assign body : Code} {l₀ : Nat} {r₀ : Loop} (hl0 : w.heap[l₀]? = some (.loop r₀))
    (H : Hp w0 D (M ++ Z) w) {gf : Nat} {lb : Array Value} (hg : a.eval g = .func (.func gf) #[] lb) (eg : ∀ args w, (callFunc gf args).run P w = .ok (.enter gf args) w)
    {encs : α → Array Value} {full : List α} (hseq : SeqG P gf lb encs full Z) (hps : ∀ x, (encs x).size = ps.size)
    (I : List α → List Ent → Prop) (Ix : Code → List α → List Ent → Prop) (Ax : List α → α → Act → List Ent → Prop) (h0 : I [] M)
    (hassign : ∀ (l : Nat) (pre : List α) (x : α) (post : List α) (N9 L : List Ent) (w1 : World) (D1 : Nat → Prop) (K : Act → World → Prop), full = pre ++ x :: post → I pre L → Exm w0 D w1 D1 → Hp w1 D1 (L ++ (N9 ++ Z)) w1 →
      (∀ a' L' W', Ax pre x a' L' → Hp w1 D1 (L' ++ (N9 ++ Z)) W' → K a' W') →
      assign.wpIn (Fence.wide.inRound l) 0 P (Exit.then K (fun _ _ _ => False)) { tmps := (ps.zip (encs x)).foldl (fun t (p, v) => t.setIfInBounds p v) a.tmps, defers := [] } w1)
    (hbody : ∀ (l : Nat) (pre : List α) (x : α) (post : List α) (a' : Act) (N9 L : List Ent) (w1 : World) (D1 : Nat → Prop), full = pre ++ x :: post → Ax pre x a' L → Exm w0 D w1 D1 → Hp w1 D1 (L ++ (N9 ++ Z)) w1 →
      (∃ r, w1.heap[l]? = some (.loop r)) → ¬ D1 l → w0.heap.size ≤ l → body.wpIn (Fence.wide.inRound l) 0 P (rfPost w1 D1 (N9 ++ Z) I Ix (pre ++ [x])) a' w1)
    (hdone : ∀ (L : List Ent) (w1 : World) (D1 : Nat → Prop), I full L → Exm w0 D w1 D1 → Hp w1 D1 (L ++ Z) w1 → Q .normal a w1)
    (hstop : ∀ (c : Code) (pre post : List α) (L : List Ent) (w1 : World) (D1 : Nat → Prop), full = pre ++ post → Ix c pre L → Exm w0 D w1 D1 → Hp w1 D1 (L ++ Z) w1 →
      c.wpIn (Fence.wide.inRound l₀) 0 P Q a w1) :
    (Code.rangeFunc g ps assign body).wpIn (Fence.wide.inRound l₀) 0 P Q a w := by
  refine wpIn_rangeFunc ?_
  intro fn hfn
  obtain ⟨rec, hrec⟩ : ∃ rec : LoopState → Option Code → Loop, rec = fun st pe => { state := st, pending := pe, fn, tmps := a.tmps, params := ps, assign, body, defers := r₀.defers } := ⟨_, rfl⟩
  obtain ⟨W1, hW1⟩ : ∃ W1, w.alloc (.loop (rec .ready none)) = W1 := ⟨_, rfl⟩
  have hL1 : W1.heap[w.heap.size]? = some (.loop (rec .ready none)) := by
    rw [← hW1]; exact World.alloc_heap_new w _
  have HW1 : Hp w0 D (M ++ Z) W1 := by rw [← hW1]; exact H.allocOther _
  have hws := H.size
  obtain ⟨N, hN⟩ : ∃ N, w.heap.size = N := ⟨_, rfl⟩
  rw [hN] at hL1 hws
  refine ⟨N, [], W1, { target := .fn (.func gf) lb, args := #[.func (.yield N) #[] #[]] }, W1, gf, #[.func (.yield N) #[] #[]] ++ lb, W1, ?_, ?_, fun f' _ => trivial, ?_, fun h => by simp [Fence.wide] at h, ?_⟩
  · have := run_enterLoop_inner (P := P) hl0 fn a.tmps ps assign body
    rw [hN] at this
    rw [← hW1, hrec]; exact this
  · simp only [resolve, hg]
    simp [go_sem]
  · simp [invoke, go_sem, eg]
  obtain ⟨J, hJ⟩ : ∃ J : List Ent → List α → World → Prop, J = fun N9 pre u => ∃ L, I pre L ∧ Hp w0 D (L ++ (N9 ++ Z)) u ∧ u.heap[N]? = some (.loop (rec .ready none)) := ⟨_, rfl⟩
  obtain ⟨Jx, hJx⟩ : ∃ Jx : List α → World → Prop, Jx = fun pre u => ∃ c L, Ix c pre L ∧ Hp w0 D (L ++ Z) u ∧ u.heap[N]? = some (.loop (rec .done (some c))) := ⟨_, rfl⟩
  have old : ∀ {u u' : World} {b : Nat} {o : Obj}, Grow u u' → u.heap[b]? = some o → u'.heap[b]? = some o := fun g h => by
    rw [g.frame _ (Array.getElem?_eq_some_iff.1 h).1 (fun h => h)]; exact h
  refine CallsIn.mono (hseq (N) J Jx W1 (fun N9 pre u hu => ?_) (fun pre u u' hu hgr => ?_) (fun N9 pre x post u hfull hu => ?_) ?_) ?_
  · rw [hJ] at hu
    obtain ⟨L, hi, h, hl⟩ := hu
    obtain ⟨Da, Xa, Ha, na⟩ := h.rebase
    refine ⟨u, Da, L, Ha, fun N8 u' h8 => ?_⟩
    rw [hJ]
    exact ⟨L, hi, Xa.hp h8, by rw [h8.frame _ (Array.getElem?_eq_some_iff.1 hl).1 (na _ _ hl rfl (by omega))]; exact hl⟩
  · rw [hJx] at hu ⊢
    obtain ⟨c, L, hi, h, hl⟩ := hu
    exact ⟨c, L, hi, h.grow hgr, old hgr hl⟩
  · -- one round
    rw [hJ] at hu
    obtain ⟨L, hi, h, hl⟩ := hu
    have hy := run_yield (P := P) (args := encs x) hl (by rw [hrec]; exact hps x)
    rw [hrec] at hy
    obtain ⟨Da, Xa, Ha, na⟩ := h.rebase
    refine ⟨fn, _, assign, body, hy, roundIn_of_wpIn trivial (hassign _ pre x post N9 L u Da _ hfull hi Xa Ha ?_)⟩
    clear hy
    intro a' L' Wa hax HWa
    have hla : Wa.heap[N]? = some (.loop (rec .ready none)) := by
      rw [HWa.frame _ (Array.getElem?_eq_some_iff.1 hl).1 (na _ _ hl rfl (by omega))]; exact hl
    have Hwa0 : Hp w0 D (L' ++ (N9 ++ Z)) Wa := Xa.hp HWa
    refine ⟨_, run_beginRound hla (by rw [hrec]), ?_⟩
    have hlt : N < Wa.heap.size := (Array.getElem?_eq_some_iff.1 hla).1
    obtain ⟨Wb, hWb⟩ : ∃ Wb, Wa.putObj N (.loop { rec .ready none with state := .busy }) = Wb := ⟨_, rfl⟩
    rw [hWb]
    have Hb0 : Hp w0 D (L' ++ (N9 ++ Z)) Wb := by rw [← hWb]; exact Hwa0.putOther _ (by omega) hla rfl
    have hlb : Wb.heap[N]? = some (.loop { rec .ready none with state := .busy }) := by rw [← hWb]; exact World.putObj_heap_same hlt
    obtain ⟨Db, Xb, Hb, nb⟩ := Hb0.rebase
    refine wpIn_mono (hbody _ pre x post a' N9 L' Wb Db hfull hax Xb Hb ⟨_, hlb⟩ (nb _ _ hlb rfl (by omega)) (by omega)) ?_
    have fin : ∀ (jump : Option Code) (L3 : List Ent) (W3 : World), Hp Wb Db (L3 ++ (N9 ++ Z)) W3 →
        (Instr.endRound N jump).run P W3 = .ok (.bool jump.isNone) (W3.putObj N (.loop (rec (if jump.isNone then .ready else .done) jump))) ∧
        Hp w0 D (L3 ++ (N9 ++ Z)) (W3.putObj N (.loop (rec (if jump.isNone then .ready else .done) jump))) ∧
        (W3.putObj N (.loop (rec (if jump.isNone then .ready else .done) jump))).heap[N]? = some (.loop (rec (if jump.isNone then .ready else .done) jump)) := fun jump L3 W3 H3 => by
      have hl3 : W3.heap[N]? = some (.loop { rec .ready none with state := .busy }) := by
        rw [H3.frame _ (Array.getElem?_eq_some_iff.1 hlb).1 (nb _ _ hlb rfl (by omega))]; exact hlb
      have := run_endRound (P := P) jump hl3
      rw [hrec] at this ⊢
      refine ⟨this, ?_, World.putObj_heap_same (Array.getElem?_eq_some_iff.1 hl3).1⟩
      exact (Xb.hp H3).putOther _ (by omega) hl3 rfl
    rintro e a3 W3 hp
    cases e with
    | normal =>
      obtain ⟨L3, hi3, H3⟩ := hp
      obtain ⟨hr, h3, hl4⟩ := fin none L3 W3 H3
      exact ⟨_, _, hr, .inl ⟨rfl, by rw [hJ]; exact ⟨L3, hi3, h3, hl4⟩⟩⟩
    | ret =>
      obtain ⟨L3, hi3, H3⟩ := hp
      obtain ⟨hr, h3, hl4⟩ := fin (some .ret) L3 W3 H3
      exact ⟨_, _, hr, .inr ⟨rfl, by rw [hJx]; exact ⟨_, L3, hi3, h3.keptMi, hl4⟩⟩⟩
    | exit id =>
      obtain ⟨L3, hi3, H3⟩ := hp
      obtain ⟨hr, h3, hl4⟩ := fin (some (.exit id)) L3 W3 H3
      exact ⟨_, _, hr, .inr ⟨rfl, by rw [hJx]; exact ⟨_, L3, hi3, h3.keptMi, hl4⟩⟩⟩
    | goto t =>
      obtain ⟨L3, hi3, H3⟩ := hp
      obtain ⟨hr, h3, hl4⟩ := fin (some (.goto t)) L3 W3 H3
      exact ⟨_, _, hr, .inr ⟨rfl, by rw [hJx]; exact ⟨_, L3, hi3, h3.keptMi, hl4⟩⟩⟩
    | panic ch => exact hp.elim
    | outgrown => exact hp.elim
  · rw [hJ]; exact ⟨M, h0, HW1, hL1⟩
  · -- behind the iterator
    have after : ∀ (st : LoopState) (pe : Option Code) (L : List Ent) (u : World), st ≠ .busy → Hp w0 D (L ++ Z) u → u.heap[N]? = some (.loop (rec st pe)) →
        ∃ u' D1, (Instr.endLoop N).run P u = .ok pe u' ∧ Exm w0 D u' D1 ∧ Hp u' D1 (L ++ Z) u' := fun st pe L u hst h hl => by
      have hr := run_endLoop (P := P) hl (by rw [hrec]; exact hst)
      have h' : Hp w0 D (L ++ Z) (u.putObj N (.loop { rec st pe with state := .exhausted })) := h.putOther _ (by omega) hl rfl
      obtain ⟨D1, X, H1, n1⟩ := h'.rebase
      refine ⟨_, D1, ?_, X, H1⟩
      rw [hr, hrec]
    rintro e W2 ⟨⟨v, rfl⟩, hh⟩
    rcases hh with hh | ⟨pre, post, hfull, hh⟩
    · obtain ⟨N9, hh⟩ := hh
      rw [hJ] at hh
      obtain ⟨L, hi, h, hl⟩ := hh
      obtain ⟨u', D1, hr, X, H1⟩ := after _ _ L W2 (by simp) h.keptMi hl
      exact ⟨none, u', hr, hdone L u' D1 hi X H1⟩
    · rw [hJx] at hh
      obtain ⟨c, L, hi, h, hl⟩ := hh
      obtain ⟨u', D1, hr, X, H1⟩ := after _ _ L W2 (by simp) h hl
      exact ⟨some c, u', hr, hstop c pre post L u' D1 hfull hi X H1⟩
/-- the same, where the loop's left sides are plain slots -/
theorem wp_rfGN1 {α : Type} {P : Program} {Q : Exit → Act → World → Prop} {a : Act} {w w0 : World} {D : Nat → Prop} {M Z : List Ent} {g : Operand} {ps : Array Tmp} {assign body : Code} {l₀ : Nat} {r₀ : Loop} (hl0 : w.heap[l₀]? = some (.loop r₀))
    (H : Hp w0 D (M ++ Z) w) {gf : Nat} {lb : Array Value} (hg : a.eval g = .func (.func gf) #[] lb) (eg : ∀ args w, (callFunc gf args).run P w = .ok (.enter gf args) w)
    {encs : α → Array Value} {full : List α} (hseq : SeqG P gf lb encs full Z) (hps : ∀ x, (encs x).size = ps.size)
    (I : List α → List Ent → Prop) (Ix : Code → List α → List Ent → Prop) (h0 : I [] M) (a₁ : α → Act)
    (hassign : ∀ (l : Nat) (x : α) (w1 : World) (K : Act → World → Prop), K (a₁ x) w1 →
      assign.wpIn (Fence.wide.inRound l) 0 P (Exit.then K (fun _ _ _ => False)) { tmps := (ps.zip (encs x)).foldl (fun t (p, v) => t.setIfInBounds p v) a.tmps, defers := [] } w1)
    (hbody : ∀ (l : Nat) (pre : List α) (x : α) (post : List α) (N9 L : List Ent) (w1 : World) (D1 : Nat → Prop), full = pre ++ x :: post → I pre L → Exm w0 D w1 D1 → Hp w1 D1 (L ++ (N9 ++ Z)) w1 →
      body.wpIn (Fence.wide.inRound l) 0 P (rfPost w1 D1 (N9 ++ Z) I Ix (pre ++ [x])) (a₁ x) w1)
    (hdone : ∀ (L : List Ent) (w1 : World) (D1 : Nat → Prop), I full L → Exm w0 D w1 D1 → Hp w1 D1 (L ++ Z) w1 → Q .normal a w1)
    (hstop : ∀ (c : Code) (pre post : List α) (L : List Ent) (w1 : World) (D1 : Nat → Prop), full = pre ++ post → Ix c pre L → Exm w0 D w1 D1 → Hp w1 D1 (L ++ Z) w1 →
      c.wpIn (Fence.wide.inRound l₀) 0 P Q a w1) :
    (Code.rangeFunc g ps assign body).wpIn (Fence.wide.inRound l₀) 0 P Q a w :=
  wp_rfGN hl0 H hg eg hseq hps I Ix (fun pre x a' L => a' = a₁ x ∧ I pre L) h0 (fun l pre x post N9 L w1 D1 K _ hi _ H1 hK => hassign l x w1 K (hK _ _ _ ⟨rfl, hi⟩ H1))
    (fun l pre x post a' N9 L w1 D1 hfull hi X H1 _ _ _ => by obtain ⟨rfl, hi⟩ := hi; exact hbody l pre x post N9 L w1 D1 hfull hi X H1) hdone hstop
end Go.Gx

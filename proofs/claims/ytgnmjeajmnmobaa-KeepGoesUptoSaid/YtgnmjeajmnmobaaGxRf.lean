/-
  A range over a function beside Hp: the caller's law, the iterator's contract; a round's regions walked as those of a function. Generic: no program in sight.
-/
import Derived.Test.YtgnmjeajmnmobaaGxRd
import Derived.Test.YtgnmjeajmnmobaaGxMp
import Derived.RangeFuncNested
import Derived.RangeFuncLeaves
import Derived.RangeFuncBound
import Derived.RangeFuncCalls
import Derived.OwnWalkIn
set_option linter.unusedVariables false
set_option linter.unusedSimpArgs false
namespace Go.Gx
open Go.RowKit
section
variable {w0 w w1 : World} {D D1 : Nat → Prop} {L M Z : List Ent}
/-- what lay stands -/
abbrev Grow (W W' : World) : Prop := Hp W (fun _ => False) [] W'
theorem ent_cells {x : Ent} {b : Nat} (h : x.at w) (hb : x.a = some b) : ∃ o : Obj, w.heap[b]? = some o ∧ o.isCells = true := by
  obtain ⟨cur, hc, _⟩ := Ent.at_some h hb
  exact ⟨_, hc, rfl⟩
/-- a block that holds no cells turns -/
theorem Hp.putOther (H : Hp w0 D L w) {l : Nat} {o : Obj} (o' : Obj) (hl : w0.heap.size ≤ l) (ho : w.heap[l]? = some o) (hc : o.isCells = false) : Hp w0 D L (w.putObj l o') := by
  refine ⟨H.os, H.tape, H.output, by show _ ≤ (w.heap.setIfInBounds l o').size; rw [Array.size_setIfInBounds]; exact H.size, fun b hb hd => ?_, fun i x hi => ?_, H.mine, H.apart⟩
  · rw [World.putObj_heap_other (by omega)]; exact H.frame b hb hd
  · refine Ent.at_of_heap (H.ents i x hi) fun b hb => World.putObj_heap_other fun e => ?_
    obtain ⟨o2, h2, h3⟩ := ent_cells (H.ents i x hi) hb
    rw [e, ho] at h2
    cases h2
    rw [hc] at h3; cases h3
theorem Hp.grow (H : Hp w0 D L w) {w' : World} (g : Grow w w') : Hp w0 D L w' :=
  ⟨g.os.trans H.os, g.tape.trans H.tape, g.output.trans H.output, Nat.le_trans H.size g.size, fun b hb hd => by rw [g.frame b (Nat.lt_of_lt_of_le hb H.size) (fun h => h)]; exact H.frame b hb hd,
   fun i x hi => Ent.at_of_heap (H.ents i x hi) fun b hb => g.frame b (H.lt hi hb) (fun h => h), H.mine, H.apart⟩
theorem Grow.refl (W : World) : Grow W W := Hp.start W
theorem Grow.drew (W : World) : Grow W W.drew := (Hp.start W).drew
theorem Grow.trans {A B C : World} (h : Grow A B) (k : Grow B C) : Grow A C := Hp.grow h k
/-- the present world in the old one's place: of what was made since, the list's blocks alone may turn -/
theorem Hp.rebase (H : Hp w0 D L w) : ∃ D1, Exm w0 D w D1 ∧ Hp w D1 L w ∧ ∀ b o, w.heap[b]? = some o → o.isCells = false → w0.heap.size ≤ b → ¬ D1 b := by
  refine ⟨fun b => (D b ∧ b < w0.heap.size) ∨ (w0.heap.size ≤ b ∧ ∃ (i : Nat) (x : Ent), L[i]? = some x ∧ x.a = some b), ⟨H.os, H.tape, H.output, H.size, fun b hb hE => ⟨?_, H.frame b hb hE⟩⟩,
    ⟨rfl, rfl, rfl, Nat.le_refl _, fun _ _ _ => rfl, H.ents, fun i x b hi hb => .inl ?_, H.apart⟩, ?_⟩
  · rintro (h | h)
    · exact hE h.1
    · omega
  · rcases H.mine i x b hi hb with h | h
    · by_cases hlt : b < w0.heap.size
      · exact .inl ⟨h, hlt⟩
      · exact .inr ⟨by omega, i, x, hi, hb⟩
    · exact .inr ⟨h, i, x, hi, hb⟩
  · rintro b o ho hc hle (h | ⟨_, i, x, hi, hb⟩)
    · omega
    · obtain ⟨o2, h2, h3⟩ := ent_cells (H.ents i x hi) hb
      rw [ho] at h2; cases h2; rw [hc] at h3; cases h3
theorem Exm.rd {x : Option Addr} {xs : List Value} (X : Exm w0 D w1 D1) (h : Rd w0 D Z x xs) : Rd w1 D1 Z x xs := by
  rcases h with h | ⟨b, o, e, h⟩
  · exact .inl h
  · exact .inr ⟨b, o, e, fun L' w' H => h L' w' (X.hp H)⟩
theorem Exm.comp {W V U : World} {E F G : Nat → Prop} (h : Exm W E V F) (k : Exm V F U G) : Exm W E U G :=
  ⟨k.os.trans h.os, k.tape.trans h.tape, k.output.trans h.output, Nat.le_trans h.size k.size, fun b hb hE => by
    have h1 := h.keep b hb hE
    have h2 := k.keep b (Nat.lt_of_lt_of_le hb h.size) h1.1
    exact ⟨h2.1, h2.2.trans h1.2⟩⟩
/-- a block that holds no cells is made -/
theorem Hp.allocOther (H : Hp w0 D L w) (o : Obj) : Hp w0 D L (w.alloc o) :=
  H.grow ⟨rfl, rfl, rfl, by simp, fun b hb _ => heap_alloc_old w o hb, fun i x h => by simp at h, fun i x b h => by simp at h, fun i j x y b h => by simp at h⟩
end
/-! ### The iterator's contract -/
def SeqHp {α : Type} (P : Program) (gf : Nat) (lb : Array Value) (encs : α → Array Value) (full : List α) (S : World → Prop) : Prop :=
  ∀ (l : Nat) (J Jx : List α → World → Prop) (W : World),
    (∀ pre u, J pre u → S u) → (∀ pre u u', J pre u → Grow u u' → J pre u') → (∀ pre u u', Jx pre u → Grow u u' → Jx pre u') →
    (∀ pre x post u, full = pre ++ x :: post → J pre u → YieldAt Fence.wide 0 P l (encs x) u fun e u' => (e = .returned (.bool true) ∧ J (pre ++ [x]) u') ∨ (e = .returned (.bool false) ∧ Jx (pre ++ [x]) u')) →
    J [] W →
    CallsIn Fence.wide 0 P gf (#[.func (.yield l) #[] #[]] ++ lb) W fun e u' => (∃ v, e = .returned v) ∧ (J full u' ∨ ∃ pre post, full = pre ++ post ∧ Jx pre u')
/-- the mark of a loop's deferred calls: none -/
def Mark (w0 w1 : World) (D1 : Nat → Prop) (k : Nat) : Prop := ¬ D1 k ∧ w0.heap.size ≤ k ∧ k < w1.heap.size ∧ w1.heap[k]? = some (.deferred (some []))
theorem Mark.behind {w0 w1 w : World} {D1 : Nat → Prop} {k : Nat} {L : List Ent} (h : Mark w0 w1 D1 k) (H : Hp w1 D1 L w) : w.heap[k]? = some (.deferred (some [])) := by
  rw [H.frame k h.2.2.1 h.1]; exact h.2.2.2
/-- how a round's body is left -/
def rfPost {α : Type} (w1 : World) (D1 : Nat → Prop) (Z : List Ent) (I : List α → List Ent → Prop) (Ix : Code → List α → List Ent → Prop) (xs : List α) : Exit → Act → World → Prop
  | .normal, _, W' => ∃ L, I xs L ∧ Hp w1 D1 (L ++ Z) W'
  | .ret, _, W' => ∃ L, Ix .ret xs L ∧ Hp w1 D1 (L ++ Z) W'
  | .exit id, _, W' => ∃ L, Ix (.exit id) xs L ∧ Hp w1 D1 (L ++ Z) W'
  | .goto t, _, W' => ∃ L, Ix (.goto t) xs L ∧ Hp w1 D1 (L ++ Z) W'
  | .panic _, _, _ => False
  | .outgrown, _, _ => False
theorem room0 {n : Nat} : Fence.wide.room n := room_wide n
/-- **the caller's law** -/
theorem wp_rf {α : Type} {P : Program} {Q : Exit → Act → World → Prop} {a : Act} {w w0 : World} {D : Nat → Prop} {M Z : List Ent} {g : Operand} {ps : Array Tmp} {assign body : Code}
    (H : Hp w0 D (M ++ Z) w) {gf : Nat} {lb : Array Value} (hg : a.eval g = .func (.func gf) #[] lb) (eg : ∀ args w, (callFunc gf args).run P w = .ok (.enter gf args) w)
    {encs : α → Array Value} {full : List α} (hseq : SeqHp P gf lb encs full (fun u => Hp w0 D Z u)) (hps : ∀ x, (encs x).size = ps.size)
    (I : List α → List Ent → Prop) (Ix : Code → List α → List Ent → Prop) (Ax : List α → α → Act → List Ent → Prop) (h0 : I [] M)
    (hassign : ∀ (l : Nat) (pre : List α) (x : α) (post : List α) (L : List Ent) (w1 : World) (D1 : Nat → Prop) (K : Act → World → Prop), full = pre ++ x :: post → I pre L → Exm w0 D w1 D1 → Hp w1 D1 (L ++ Z) w1 →
      (∀ a' L' W', Ax pre x a' L' → Hp w1 D1 (L' ++ Z) W' → K a' W') →
      assign.wpIn (Fence.wide.inRound l) 0 P (Exit.then K (fun _ _ _ => False)) { tmps := (ps.zip (encs x)).foldl (fun t (p, v) => t.setIfInBounds p v) a.tmps, defers := [] } w1)
    (hbody : ∀ (l : Nat) (pre : List α) (x : α) (post : List α) (a' : Act) (L : List Ent) (w1 : World) (D1 : Nat → Prop), full = pre ++ x :: post → Ax pre x a' L → Exm w0 D w1 D1 → Hp w1 D1 (L ++ Z) w1 →
      (∃ r, w1.heap[l]? = some (.loop r)) → ¬ D1 l → w0.heap.size ≤ l → body.wpIn (Fence.wide.inRound l) 0 P (rfPost w1 D1 Z I Ix (pre ++ [x])) a' w1)
    (hdone : ∀ (k : Nat) (L : List Ent) (w1 : World) (D1 : Nat → Prop), I full L → Exm w0 D w1 D1 → Hp w1 D1 (L ++ Z) w1 → Mark w0 w1 D1 k → Q .normal { a with defers := { target := .collected k, args := #[] } :: a.defers } w1)
    (hstop : ∀ (k : Nat) (c : Code) (pre post : List α) (L : List Ent) (w1 : World) (D1 : Nat → Prop), full = pre ++ post → Ix c pre L → Exm w0 D w1 D1 → Hp w1 D1 (L ++ Z) w1 → Mark w0 w1 D1 k →
      c.wpIn Fence.wide 0 P Q { a with defers := { target := .collected k, args := #[] } :: a.defers } w1) :
    (Code.rangeFunc g ps assign body).wpIn Fence.wide 0 P Q a w := by
  refine wpIn_rangeFunc ?_
  intro fn hfn
  obtain ⟨rec, hrec⟩ : ∃ rec : LoopState → Option Code → Loop, rec = fun st pe => { state := st, pending := pe, fn, tmps := a.tmps, params := ps, assign, body, defers := w.heap.size } := ⟨_, rfl⟩
  obtain ⟨W1, hW1⟩ : ∃ W1, (w.alloc (.deferred (some []))).alloc (.loop (rec .ready none)) = W1 := ⟨_, rfl⟩
  have hL1 : W1.heap[w.heap.size + 1]? = some (.loop (rec .ready none)) := by
    rw [← hW1]; have := World.alloc_heap_new (w.alloc (.deferred (some []))) (.loop (rec .ready none)); rwa [World.size_alloc] at this
  have hK1 : W1.heap[w.heap.size]? = some (.deferred (some [])) := by
    rw [← hW1, heap_alloc_old _ _ (by simp)]; exact World.alloc_heap_new w _
  have HW1 : Hp w0 D (M ++ Z) W1 := by rw [← hW1]; exact (H.allocOther _).allocOther _
  have hws := H.size
  obtain ⟨N, hN⟩ : ∃ N, w.heap.size = N := ⟨_, rfl⟩
  rw [hN] at hL1 hK1 hws hrec
  refine ⟨N + 1, [{ target := .collected N, args := #[] }], W1, { target := .fn (.func gf) lb, args := #[.func (.yield (N + 1)) #[] #[]] }, W1, gf, #[.func (.yield (N + 1)) #[] #[]] ++ lb, W1, ?_, ?_, fun f' _ => trivial, ?_, fun h => by simp [Fence.wide] at h, ?_⟩
  · have := run_enterLoop_outer (P := P) (w := w) fn a.tmps ps assign body
    rw [hN] at this
    rw [← hW1, hrec]; exact this
  · simp only [resolve, hg]
    simp [go_sem]
  · simp [invoke, go_sem, eg]
  obtain ⟨J, hJ⟩ : ∃ J : List α → World → Prop, J = fun pre u => ∃ L, I pre L ∧ Hp w0 D (L ++ Z) u ∧ u.heap[N + 1]? = some (.loop (rec .ready none)) ∧ u.heap[N]? = some (.deferred (some [])) := ⟨_, rfl⟩
  obtain ⟨Jx, hJx⟩ : ∃ Jx : List α → World → Prop, Jx = fun pre u => ∃ c L, Ix c pre L ∧ Hp w0 D (L ++ Z) u ∧ u.heap[N + 1]? = some (.loop (rec .done (some c))) ∧ u.heap[N]? = some (.deferred (some [])) := ⟨_, rfl⟩
  have old : ∀ {u u' : World} {b : Nat} {o : Obj}, Grow u u' → u.heap[b]? = some o → u'.heap[b]? = some o := fun g h => by
    rw [g.frame _ (Array.getElem?_eq_some_iff.1 h).1 (fun h => h)]; exact h
  refine CallsIn.mono (hseq (N + 1) J Jx W1 (fun pre u hu => ?_) (fun pre u u' hu hgr => ?_) (fun pre u u' hu hgr => ?_) (fun pre x post u hfull hu => ?_) ?_) ?_
  · rw [hJ] at hu
    obtain ⟨L, _, h, _⟩ := hu
    exact h.dropL
  · rw [hJ] at hu ⊢
    obtain ⟨L, hi, h, hl, hk⟩ := hu
    exact ⟨L, hi, h.grow hgr, old hgr hl, old hgr hk⟩
  · rw [hJx] at hu ⊢
    obtain ⟨c, L, hi, h, hl, hk⟩ := hu
    exact ⟨c, L, hi, h.grow hgr, old hgr hl, old hgr hk⟩
  · -- one round
    rw [hJ] at hu
    obtain ⟨L, hi, h, hl, hk⟩ := hu
    have hy := run_yield (P := P) (args := encs x) hl (by rw [hrec]; exact hps x)
    rw [hrec] at hy
    obtain ⟨Da, Xa, Ha, na⟩ := h.rebase
    refine ⟨fn, _, assign, body, hy, roundIn_of_wpIn trivial (hassign _ pre x post L u Da _ hfull hi Xa Ha ?_)⟩
    clear hy
    intro a' L' Wa hax HWa
    have hla : Wa.heap[N + 1]? = some (.loop (rec .ready none)) := by
      rw [HWa.frame _ (Array.getElem?_eq_some_iff.1 hl).1 (na _ _ hl rfl (by omega))]; exact hl
    have hka : Wa.heap[N]? = some (.deferred (some [])) := by
      rw [HWa.frame _ (Array.getElem?_eq_some_iff.1 hk).1 (na _ _ hk rfl (by omega))]; exact hk
    have Hwa0 : Hp w0 D (L' ++ Z) Wa := Xa.hp HWa
    refine ⟨_, run_beginRound hla (by rw [hrec]), ?_⟩
    have hlt : N + 1 < Wa.heap.size := (Array.getElem?_eq_some_iff.1 hla).1
    obtain ⟨Wb, hWb⟩ : ∃ Wb, Wa.putObj (N + 1) (.loop { rec .ready none with state := .busy }) = Wb := ⟨_, rfl⟩
    rw [hWb]
    have Hb0 : Hp w0 D (L' ++ Z) Wb := by rw [← hWb]; exact Hwa0.putOther _ (by omega) hla rfl
    have hlb : Wb.heap[N + 1]? = some (.loop { rec .ready none with state := .busy }) := by rw [← hWb]; exact World.putObj_heap_same hlt
    have hkb : Wb.heap[N]? = some (.deferred (some [])) := by rw [← hWb, World.putObj_heap_other (by omega)]; exact hka
    obtain ⟨Db, Xb, Hb, nb⟩ := Hb0.rebase
    refine wpIn_mono (hbody _ pre x post a' L' Wb Db hfull hax Xb Hb ⟨_, hlb⟩ (nb _ _ hlb rfl (by omega)) (by omega)) ?_
    have fin : ∀ (jump : Option Code) (L3 : List Ent) (W3 : World), Hp Wb Db (L3 ++ Z) W3 →
        (Instr.endRound (N + 1) jump).run P W3 = .ok (.bool jump.isNone) (W3.putObj (N + 1) (.loop (rec (if jump.isNone then .ready else .done) jump))) ∧
        Hp w0 D (L3 ++ Z) (W3.putObj (N + 1) (.loop (rec (if jump.isNone then .ready else .done) jump))) ∧
        (W3.putObj (N + 1) (.loop (rec (if jump.isNone then .ready else .done) jump))).heap[N + 1]? = some (.loop (rec (if jump.isNone then .ready else .done) jump)) ∧
        (W3.putObj (N + 1) (.loop (rec (if jump.isNone then .ready else .done) jump))).heap[N]? = some (.deferred (some [])) := fun jump L3 W3 H3 => by
      have hl3 : W3.heap[N + 1]? = some (.loop { rec .ready none with state := .busy }) := by
        rw [H3.frame _ (Array.getElem?_eq_some_iff.1 hlb).1 (nb _ _ hlb rfl (by omega))]; exact hlb
      have hk3 : W3.heap[N]? = some (.deferred (some [])) := by
        rw [H3.frame _ (Array.getElem?_eq_some_iff.1 hkb).1 (nb _ _ hkb rfl (by omega))]; exact hkb
      have := run_endRound (P := P) jump hl3
      rw [hrec] at this ⊢
      refine ⟨this, ?_, World.putObj_heap_same (Array.getElem?_eq_some_iff.1 hl3).1, (World.putObj_heap_other (by omega)).trans hk3⟩
      exact (Xb.hp H3).putOther _ (by omega) hl3 rfl
    rintro e a3 W3 hp
    cases e with
    | normal =>
      obtain ⟨L3, hi3, H3⟩ := hp
      obtain ⟨hr, h3, hl4, hk4⟩ := fin none L3 W3 H3
      exact ⟨_, _, hr, .inl ⟨rfl, by rw [hJ]; exact ⟨L3, hi3, h3, hl4, hk4⟩⟩⟩
    | ret =>
      obtain ⟨L3, hi3, H3⟩ := hp
      obtain ⟨hr, h3, hl4, hk4⟩ := fin (some .ret) L3 W3 H3
      exact ⟨_, _, hr, .inr ⟨rfl, by rw [hJx]; exact ⟨_, L3, hi3, h3, hl4, hk4⟩⟩⟩
    | exit id =>
      obtain ⟨L3, hi3, H3⟩ := hp
      obtain ⟨hr, h3, hl4, hk4⟩ := fin (some (.exit id)) L3 W3 H3
      exact ⟨_, _, hr, .inr ⟨rfl, by rw [hJx]; exact ⟨_, L3, hi3, h3, hl4, hk4⟩⟩⟩
    | goto t =>
      obtain ⟨L3, hi3, H3⟩ := hp
      obtain ⟨hr, h3, hl4, hk4⟩ := fin (some (.goto t)) L3 W3 H3
      exact ⟨_, _, hr, .inr ⟨rfl, by rw [hJx]; exact ⟨_, L3, hi3, h3, hl4, hk4⟩⟩⟩
    | panic ch => exact hp.elim
    | outgrown => exact hp.elim
  · rw [hJ]; exact ⟨M, h0, HW1, hL1, hK1⟩
  · -- behind the iterator
    have after : ∀ (st : LoopState) (pe : Option Code) (L : List Ent) (u : World), st ≠ .busy → Hp w0 D (L ++ Z) u → u.heap[N + 1]? = some (.loop (rec st pe)) → u.heap[N]? = some (.deferred (some [])) →
        ∃ u' D1, (Instr.endLoop (N + 1)).run P u = .ok pe u' ∧ Exm w0 D u' D1 ∧ Hp u' D1 (L ++ Z) u' ∧ Mark w0 u' D1 N := fun st pe L u hst h hl hk => by
      have hr := run_endLoop (P := P) hl (by rw [hrec]; exact hst)
      have h' : Hp w0 D (L ++ Z) (u.putObj (N + 1) (.loop { rec st pe with state := .exhausted })) := h.putOther _ (by omega) hl rfl
      have hk' : (u.putObj (N + 1) (.loop { rec st pe with state := .exhausted })).heap[N]? = some (.deferred (some [])) := (World.putObj_heap_other (by omega)).trans hk
      obtain ⟨D1, X, H1, n1⟩ := h'.rebase
      refine ⟨_, D1, ?_, X, H1, n1 _ _ hk' rfl (by omega), by omega, (Array.getElem?_eq_some_iff.1 hk').1, hk'⟩
      rw [hr, hrec]
    rintro e W2 ⟨⟨v, rfl⟩, hh⟩
    rcases hh with hh | ⟨pre, post, hfull, hh⟩
    · rw [hJ] at hh
      obtain ⟨L, hi, h, hl, hk⟩ := hh
      obtain ⟨u', D1, hr, X, H1, hm⟩ := after _ _ L W2 (by simp) h hl hk
      exact ⟨none, u', hr, hdone N L u' D1 hi X H1 hm⟩
    · rw [hJx] at hh
      obtain ⟨c, L, hi, h, hl, hk⟩ := hh
      obtain ⟨u', D1, hr, X, H1, hm⟩ := after _ _ L W2 (by simp) h hl hk
      exact ⟨some c, u', hr, hstop N c pre post L u' D1 hfull hi X H1 hm⟩
/-- the same, where the loop's left sides are plain slots -/
theorem wp_rf1 {α : Type} {P : Program} {Q : Exit → Act → World → Prop} {a : Act} {w w0 : World} {D : Nat → Prop} {M Z : List Ent} {g : Operand} {ps : Array Tmp} {assign body : Code}
    (H : Hp w0 D (M ++ Z) w) {gf : Nat} {lb : Array Value} (hg : a.eval g = .func (.func gf) #[] lb) (eg : ∀ args w, (callFunc gf args).run P w = .ok (.enter gf args) w)
    {encs : α → Array Value} {full : List α} (hseq : SeqHp P gf lb encs full (fun u => Hp w0 D Z u)) (hps : ∀ x, (encs x).size = ps.size)
    (I : List α → List Ent → Prop) (Ix : Code → List α → List Ent → Prop) (h0 : I [] M) (a₁ : α → Act)
    (hassign : ∀ (l : Nat) (x : α) (w1 : World) (K : Act → World → Prop), K (a₁ x) w1 →
      assign.wpIn (Fence.wide.inRound l) 0 P (Exit.then K (fun _ _ _ => False)) { tmps := (ps.zip (encs x)).foldl (fun t (p, v) => t.setIfInBounds p v) a.tmps, defers := [] } w1)
    (hbody : ∀ (l : Nat) (pre : List α) (x : α) (post : List α) (L : List Ent) (w1 : World) (D1 : Nat → Prop), full = pre ++ x :: post → I pre L → Exm w0 D w1 D1 → Hp w1 D1 (L ++ Z) w1 →
      (∃ r, w1.heap[l]? = some (.loop r)) → ¬ D1 l → w0.heap.size ≤ l → body.wpIn (Fence.wide.inRound l) 0 P (rfPost w1 D1 Z I Ix (pre ++ [x])) (a₁ x) w1)
    (hdone : ∀ (k : Nat) (L : List Ent) (w1 : World) (D1 : Nat → Prop), I full L → Exm w0 D w1 D1 → Hp w1 D1 (L ++ Z) w1 → Mark w0 w1 D1 k → Q .normal { a with defers := { target := .collected k, args := #[] } :: a.defers } w1)
    (hstop : ∀ (k : Nat) (c : Code) (pre post : List α) (L : List Ent) (w1 : World) (D1 : Nat → Prop), full = pre ++ post → Ix c pre L → Exm w0 D w1 D1 → Hp w1 D1 (L ++ Z) w1 → Mark w0 w1 D1 k →
      c.wpIn Fence.wide 0 P Q { a with defers := { target := .collected k, args := #[] } :: a.defers } w1) :
    (Code.rangeFunc g ps assign body).wpIn Fence.wide 0 P Q a w :=
  wp_rf H hg eg hseq hps I Ix (fun pre x a' L => a' = a₁ x ∧ I pre L) h0 (fun l pre x post L w1 D1 K _ hi _ H1 hK => hassign l x w1 K (hK _ _ _ ⟨rfl, hi⟩ H1))
    (fun l pre x post a' L w1 D1 hfull hi X H1 hr hnd hle => by obtain ⟨rfl, hi⟩ := hi; exact hbody l pre x post L w1 D1 hfull hi X H1 hr hnd hle) hdone hstop
end Go.Gx

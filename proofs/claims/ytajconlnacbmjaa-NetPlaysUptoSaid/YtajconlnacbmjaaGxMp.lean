/-
  Maps of the call's own beside Hp: what is kept of memory through a new base. Generic: no program in sight.
-/
import Derived.Test.YtajconlnacbmjaaGxHeap
import Derived.MapKept
import Derived.Carry
set_option linter.unusedVariables false
set_option linter.unusedSimpArgs false
namespace Go.Gx
open Go.MapKept
/-- w0 with D in place of W with E: what was not E's stands and is not D's -/
structure Exm (W : World) (E : Nat → Prop) (w0 : World) (D : Nat → Prop) : Prop where
  os : w0.os = W.os
  tape : w0.tape = W.tape
  output : w0.output = W.output
  size : W.heap.size ≤ w0.heap.size
  keep : ∀ b, b < W.heap.size → ¬ E b → ¬ D b ∧ w0.heap[b]? = W.heap[b]?
theorem Exm.refl (W : World) (E : Nat → Prop) : Exm W E W E := ⟨rfl, rfl, rfl, Nat.le_refl _, fun b _ h => ⟨h, rfl⟩⟩
theorem Exm.hp {W w0 w : World} {E D : Nat → Prop} {L : List Ent} (X : Exm W E w0 D) (H : Hp w0 D L w) : Hp W E L w :=
  ⟨H.os.trans X.os, H.tape.trans X.tape, H.output.trans X.output, Nat.le_trans X.size H.size,
   fun b hb hE => by rw [H.frame b (Nat.lt_of_lt_of_le hb X.size) (X.keep b hb hE).1, (X.keep b hb hE).2],
   H.ents,
   fun i x b hi ha => by
     by_cases hE : E b
     · exact .inl hE
     · by_cases hb : b < W.heap.size
       · rcases H.mine i x b hi ha with h | h
         · exact absurd h (X.keep b hb hE).1
         · exact .inr (Nat.le_trans X.size h)
       · exact .inr (by omega),
   H.apart⟩
/-- a map with keys of the kind q -/
def mapAt (w : World) (q : IntKind) (b : Nat) (kv : List (Int × Value)) : Prop :=
  ∃ es ck, w.heap[b]? = some (.map es ck) ∧ es.toList.map (fun e => (e.key, e.val)) = kv.map (fun p => (Value.int q p.1, p.2))
/-- Hp, and maps that the call made: (block, kind of key, what it holds) -/
def Hm (W : World) (E : Nat → Prop) (M : List (Nat × IntKind × List (Int × Value))) (L : List Ent) (w : World) : Prop :=
  ∃ w0 D, Exm W E w0 D ∧ Hp w0 D L w ∧ (∀ (i : Nat) (m : Nat × IntKind × List (Int × Value)), M[i]? = some m → ¬ D m.1 ∧ m.1 < w0.heap.size ∧ mapAt w0 m.2.1 m.1 m.2.2 ∧ (E m.1 ∨ W.heap.size ≤ m.1))
    ∧ ∀ (i j : Nat) (m n : Nat × IntKind × List (Int × Value)), M[i]? = some m → M[j]? = some n → m.1 = n.1 → i = j
section
variable {W w : World} {E : Nat → Prop} {L : List Ent} {M : List (Nat × IntKind × List (Int × Value))}
theorem Hm.of (H : Hp W E L w) : Hm W E [] L w := ⟨W, E, Exm.refl W E, H, by simp, by simp⟩
theorem Hm.hp (h : Hm W E M L w) : Hp W E L w := by obtain ⟨w0, D, X, H, _⟩ := h; exact X.hp H
/-- a contract over Hp serves -/
theorem Hm.calls {P : Program} {f : Nat} {args : Array Value} {Post : Ending → (List Ent → World → Prop) → World → Prop} (h : Hm W E M L w)
    (hmono : ∀ e w' (A B : List Ent → World → Prop), (∀ L' u, A L' u → B L' u) → Post e A w' → Post e B w')
    (k : ∀ w0 D, Hp w0 D L w → Calls P f args w fun e w' => Post e (fun L' u => Hp w0 D L' u) w') : Calls P f args w fun e w' => Post e (fun L' u => Hm W E M L' u) w' := by
  obtain ⟨w0, D, X, H, h1, h2⟩ := h
  exact (k w0 D H).mono fun e w' hp => hmono e w' _ _ (fun L' u hu => ⟨w0, D, X, hu, h1, h2⟩) hp
/-- .. of one shape -/
theorem Hm.calls1 {P : Program} {f : Nat} {args : Array Value} {v : Ending} {L' : List Ent} (h : Hm W E M L w)
    (k : ∀ w0 D, Hp w0 D L w → Calls P f args w fun e w' => e = v ∧ Hp w0 D L' w') : Calls P f args w fun e w' => e = v ∧ Hm W E M L' w' := by
  obtain ⟨w0, D, X, H, h1, h2⟩ := h
  exact (k w0 D H).mono fun e w' hp => ⟨hp.1, ⟨w0, D, X, hp.2, h1, h2⟩⟩
/-- the walk's step: any step over Hp that leaves Hp -/
theorem Hm.open (h : Hm W E M L w) : ∃ w0 D, Hp w0 D L w ∧ (∀ L' u, Hp w0 D L' u → Hm W E M L' u) := by
  obtain ⟨w0, D, X, H, h1, h2⟩ := h
  exact ⟨w0, D, H, fun L' u hu => ⟨w0, D, X, hu, h1, h2⟩⟩
theorem Hm.open1 (h : Hm W E M L w) {i : Nat} {m : Nat × IntKind × List (Int × Value)} (hi : M[i]? = some m) :
    ∃ w0 D, Hp w0 D L w ∧ (∀ L' u, Hp w0 D L' u → Hm W E M L' u) ∧ (∀ L' u, Hp w0 D L' u → mapAt u m.2.1 m.1 m.2.2) := by
  obtain ⟨w0, D, X, H, h1, h2⟩ := h
  refine ⟨w0, D, H, fun L' u hu => ⟨w0, D, X, hu, h1, h2⟩, fun L' u hu => ?_⟩
  obtain ⟨hD, hlt, ⟨es, ck, hb, he⟩, _⟩ := h1 i m hi
  exact ⟨es, ck, by rw [hu.frame _ hlt hD]; exact hb, he⟩
theorem Hm.map (h : Hm W E M L w) {i : Nat} {m : Nat × IntKind × List (Int × Value)} (hi : M[i]? = some m) : mapAt w m.2.1 m.1 m.2.2 := by
  obtain ⟨w0, D, X, H, h1, h2⟩ := h
  obtain ⟨hD, hlt, ⟨es, ck, hb, he⟩, _⟩ := h1 i m hi
  exact ⟨es, ck, by rw [H.frame _ hlt hD]; exact hb, he⟩
theorem Hm.drop {m : Nat × IntKind × List (Int × Value)} (h : Hm W E (m :: M) L w) : Hm W E M L w := by
  obtain ⟨w0, D, X, H, h1, h2⟩ := h
  exact ⟨w0, D, X, H, fun i m hi => h1 (i + 1) m (by simpa using hi), fun i j m n hi hj e => by have := h2 (i + 1) (j + 1) m n (by simpa using hi) (by simpa using hj) e; omega⟩
theorem Hm.sub {M' : List (Nat × IntKind × List (Int × Value))} (h : Hm W E M L w) (f : Nat → Nat) (hf : ∀ i j, f i = f j → i = j) (hM : ∀ i m, M'[i]? = some m → M[f i]? = some m) : Hm W E M' L w := by
  obtain ⟨w0, D, X, H, h1, h2⟩ := h
  exact ⟨w0, D, X, H, fun i m hi => h1 (f i) m (hM i m hi), fun i j m n hi hj e => hf i j (h2 (f i) (f j) m n (hM i m hi) (hM j n hj) e)⟩
theorem Hm.swap {A B : List (Nat × IntKind × List (Int × Value))} (h : Hm W E (A ++ (B ++ M)) L w) : Hm W E (B ++ (A ++ M)) L w :=
  h.sub (fun i => if i < B.length then A.length + i else if i < B.length + A.length then i - B.length else i) (fun i j h => by (try dsimp only at h); split at h <;> split at h <;> (try split at h) <;> (try split at h) <;> omega) (fun i x h => by
    (try dsimp only)
    split
    · rename_i hi
      rw [List.getElem?_append_left hi] at h
      rw [List.getElem?_append_right (by omega), List.getElem?_append_left (by omega)]
      simpa using h
    · rename_i hi
      rw [List.getElem?_append_right (by omega)] at h
      split
      · rename_i hi2
        rw [List.getElem?_append_left (by omega)] at h
        rw [List.getElem?_append_left (by omega)]
        exact h
      · rename_i hi2
        rw [List.getElem?_append_right (by omega)] at h
        rw [List.getElem?_append_right (by omega), List.getElem?_append_right (by omega)]
        rw [← h]; congr 1; omega)
theorem Hm.mono (h : Hm W E M L w) {L' : List Ent} {w' : World} (k : ∀ w0 D, Hp w0 D L w → Hp w0 D L' w') : Hm W E M L' w' := by
  obtain ⟨w0, D, X, H, h1, h2⟩ := h
  exact ⟨w0, D, X, k w0 D H, h1, h2⟩
/-- a map is made -/
theorem Hm.made (h : Hm W E M L w) (q : IntKind) : Hm W E ((w.heap.size, q, []) :: M) L (w.alloc (.map #[] 0)) := by
  have hW := h.hp
  obtain ⟨w0, D, X, H, h1, h2⟩ := h
  have hlt : ∀ (i : Nat) (x : Ent) (b : Nat), L[i]? = some x → x.a = some b → b < w.heap.size := fun i x b hi ha => H.lt hi ha
  have ea : ∀ b, b < w.heap.size → (w.alloc (.map #[] 0)).heap[b]? = w.heap[b]? := fun b hb => (heap_alloc w _).2 b hb
  have es : (w.alloc (.map #[] 0)).heap.size = w.heap.size + 1 := by show (w.heap.push _).size = _; simp
  have hm : ∀ (i : Nat) (m : Nat × IntKind × List (Int × Value)), M[i]? = some m → m.1 < w.heap.size := fun i m hi => Nat.lt_of_lt_of_le (h1 i m hi).2.1 H.size
  refine ⟨w.alloc (.map #[] 0), fun b => b ≠ w.heap.size ∧ (D b ∨ w0.heap.size ≤ b), ⟨?_, ?_, ?_, ?_, ?_⟩, ⟨rfl, rfl, rfl, Nat.le_refl _, fun _ _ _ => rfl, ?_, ?_, H.apart⟩, ?_, ?_⟩
  · exact H.os.trans X.os
  · exact H.tape.trans X.tape
  · exact H.output.trans X.output
  · rw [es]; have := X.size; have := H.size; omega
  · intro b hb hE
    have k := X.keep b hb hE
    have := X.size
    have := H.size
    refine ⟨fun hh => ?_, ?_⟩
    · rcases hh.2 with h3 | h3
      · exact k.1 h3
      · omega
    · rw [ea b (by omega), H.frame b (by omega) k.1, k.2]
  · intro i x hi
    exact Ent.at_of_heap (H.ents i x hi) fun b hb => ea b (hlt i x b hi hb)
  · intro i x b hi ha
    have := hlt i x b hi ha
    exact .inl ⟨by omega, H.mine i x b hi ha⟩
  · intro i m hi
    cases i with
    | zero =>
      simp only [List.getElem?_cons_zero, Option.some.injEq] at hi
      subst hi
      exact ⟨fun hh => hh.1 rfl, by rw [es]; simp, ⟨#[], 0, (heap_alloc w _).1, rfl⟩, .inr (by have := X.size; have := H.size; omega)⟩
    | succ i =>
      have hi : M[i]? = some m := by simpa using hi
      have hlt2 := hm i m hi
      obtain ⟨a1, a2, ⟨es1, ck, a3, a4⟩, a5⟩ := h1 i m hi
      refine ⟨fun hh => ?_, by rw [es]; omega, ⟨es1, ck, by rw [ea _ hlt2, H.frame _ a2 a1]; exact a3, a4⟩, a5⟩
      rcases hh.2 with h3 | h3
      · exact a1 h3
      · omega
  · intro i j m n hi hj e
    cases i with
    | zero =>
      cases j with
      | zero => rfl
      | succ j =>
        simp only [List.getElem?_cons_zero, Option.some.injEq] at hi
        subst hi
        have := hm j n (by simpa using hj)
        have e : w.heap.size = n.1 := e
        omega
    | succ i =>
      cases j with
      | zero =>
        simp only [List.getElem?_cons_zero, Option.some.injEq] at hj
        subst hj
        have := hm i m (by simpa using hi)
        have e : m.1 = w.heap.size := e
        omega
      | succ j => rw [h2 i j m n (by simpa using hi) (by simpa using hj) e]
/-- a map turns -/
theorem Hm.upd (h : Hm W E M L w) {i : Nat} {b : Nat} {q : IntKind} {kv kv' : List (Int × Value)} (hi : M[i]? = some (b, q, kv)) {es : Array MapEntry} {ck : Nat} (he : es.toList.map (fun e => (e.key, e.val)) = kv'.map (fun p => (Value.int q p.1, p.2))) :
    Hm W E (M.set i (b, q, kv')) L { w with heap := w.heap.setIfInBounds b (.map es ck) } := by
  obtain ⟨w0, D, X, H, h1, h2⟩ := h
  obtain ⟨a1, a2, ⟨es1, ck1, a3, a4⟩, a5⟩ := h1 i _ hi
  have a1 : ¬ D b := a1
  have a2 : b < w0.heap.size := a2
  have a5 : E b ∨ W.heap.size ≤ b := a5
  have hil : i < M.length := (List.getElem?_eq_some_iff.1 hi).1
  have s0 : ∀ c, c ≠ b → (w0.heap.setIfInBounds b (.map es ck))[c]? = w0.heap[c]? := fun c hc => by simp [Ne.symm hc]
  have s1 : ∀ c, c ≠ b → (w.heap.setIfInBounds b (.map es ck))[c]? = w.heap[c]? := fun c hc => by simp [Ne.symm hc]
  have hbw : b < w.heap.size := Nat.lt_of_lt_of_le a2 H.size
  have hne : ∀ (j : Nat) (x : Ent) (c : Nat), L[j]? = some x → x.a = some c → c ≠ b := by
    intro j x c hj ha e
    subst e
    rcases H.mine j x c hj ha with h3 | h3
    · exact a1 h3
    · omega
  refine ⟨{ w0 with heap := w0.heap.setIfInBounds b (.map es ck) }, D, ⟨X.os, X.tape, X.output, by show _ ≤ (w0.heap.setIfInBounds b _).size; rw [Array.size_setIfInBounds]; exact X.size, ?_⟩, ⟨H.os, H.tape, H.output, ?_, ?_, ?_, ?_, H.apart⟩, ?_, ?_⟩
  · intro c hc hE
    have hcb : c ≠ b := fun e => by subst e; rcases a5 with h3 | h3; exact hE h3; omega
    have k := X.keep c hc hE
    exact ⟨k.1, by show (w0.heap.setIfInBounds b _)[c]? = _; rw [s0 c hcb]; exact k.2⟩
  · show (w0.heap.setIfInBounds b _).size ≤ (w.heap.setIfInBounds b _).size
    rw [Array.size_setIfInBounds, Array.size_setIfInBounds]; exact H.size
  · intro c hc hD
    have hc : c < w0.heap.size := by simpa using hc
    show (w.heap.setIfInBounds b _)[c]? = (w0.heap.setIfInBounds b _)[c]?
    by_cases hcb : c = b
    · subst hcb
      rw [show (w.heap.setIfInBounds c (Obj.map es ck))[c]? = some (Obj.map es ck) by simp [hbw], show (w0.heap.setIfInBounds c (Obj.map es ck))[c]? = some (Obj.map es ck) by simp [a2]]
    · rw [s0 c hcb, s1 c hcb]; exact H.frame c hc hD
  · intro j x hj
    exact Ent.at_of_heap (H.ents j x hj) fun c hc => s1 c (hne j x c hj hc)
  · intro j x c hj ha
    rcases H.mine j x c hj ha with h3 | h3
    · exact .inl h3
    · exact .inr (by show (w0.heap.setIfInBounds b _).size ≤ c; rw [Array.size_setIfInBounds]; exact h3)
  · intro j m hj
    by_cases hji : j = i
    · subst hji
      rw [List.getElem?_set_self hil] at hj
      cases hj
      exact ⟨a1, by show b < (w0.heap.setIfInBounds b _).size; rw [Array.size_setIfInBounds]; exact a2, ⟨es, ck, by show (w0.heap.setIfInBounds b _)[b]? = _; simp [a2], he⟩, a5⟩
    · rw [List.getElem?_set_ne (Ne.symm hji)] at hj
      obtain ⟨c1, c2, ⟨es2, ck2, c3, c4⟩, c5⟩ := h1 j m hj
      have hcb : m.1 ≠ b := fun e => hji (h2 j i m _ hj hi e)
      exact ⟨c1, by show m.1 < (w0.heap.setIfInBounds b _).size; rw [Array.size_setIfInBounds]; exact c2, ⟨es2, ck2, by show (w0.heap.setIfInBounds b _)[m.1]? = _; rw [s0 _ hcb]; exact c3, c4⟩, c5⟩
  · intro j k m n hj hk e
    have get : ∀ (j : Nat) (m : Nat × IntKind × List (Int × Value)), (M.set i (b, q, kv'))[j]? = some m → ∃ m', M[j]? = some m' ∧ m'.1 = m.1 := by
      intro j m hj
      by_cases hji : j = i
      · subst hji; rw [List.getElem?_set_self hil] at hj; cases hj; exact ⟨_, hi, rfl⟩
      · rw [List.getElem?_set_ne (Ne.symm hji)] at hj; exact ⟨m, hj, rfl⟩
    obtain ⟨m', hm', e1⟩ := get j m hj
    obtain ⟨n', hn', e2⟩ := get k n hk
    exact h2 j k m' n' hm' hn' (by rw [e1, e2, e])
end

/-- what a map has for a key -/
def look (kv : List (Int × Value)) (k : Int) : Option Value := (kv.find? fun p => p.1 == k).map (·.2)
theorem look_nil (k : Int) : look [] k = none := rfl
theorem look_append (kv : List (Int × Value)) (k j : Int) (v : Value) : look (kv ++ [(j, v)]) k = (look kv k).or (if j = k then some v else none) := by
  unfold look
  rw [List.find?_append]
  cases h : kv.find? fun p => p.1 == k with
  | some p => simp
  | none => by_cases e : j = k <;> simp [e]
theorem find_int {q : IntKind} {k : Int} : ∀ (es : List MapEntry) (kv : List (Int × Value)) (i : Nat), es.map (fun e => (e.key, e.val)) = kv.map (fun p => (Value.int q p.1, p.2)) →
    (∃ j v, Instr.findNow (.int q) (.int q k) es i = some (some (j, v)) ∧ look kv k = some v) ∨ (Instr.findNow (.int q) (.int q k) es i = some none ∧ look kv k = none)
  | [], kv, i, h => by
    cases kv with
    | nil => exact .inr ⟨rfl, rfl⟩
    | cons p kv => cases h
  | e :: es, kv, i, h => by
    cases kv with
    | nil => cases h
    | cons p kv =>
      simp only [List.map_cons, List.cons.injEq, Prod.mk.injEq] at h
      obtain ⟨⟨h1, h2⟩, h3⟩ := h
      have hs : Instr.sameNow (.int q) (.int q k) e.key = some (k == p.1) := by rw [h1]; simp [Instr.sameNow]
      by_cases hk : p.1 = k
      · have hb : (k == p.1) = true := by simp [hk]
        rw [hb] at hs
        exact .inl ⟨i, e.val, by simp [Instr.findNow, hs], by simp [look, List.find?_cons, hk, h2]⟩
      · have hb : (k == p.1) = false := by simpa using Ne.symm hk
        rw [hb] at hs
        have hl : look (p :: kv) k = look kv k := by simp [look, List.find?_cons, hk]
        rw [hl]
        rcases find_int es kv (i + 1) h3 with ⟨j, v, g1, g2⟩ | ⟨g1, g2⟩
        · exact .inl ⟨j, v, by simp [Instr.findNow, hs, g1], g2⟩
        · exact .inr ⟨by simp [Instr.findNow, hs, g1], g2⟩
theorem isKey_int {q : IntKind} {k : Int} : IsKey (.int q) (.int q k) := by simp [IsKey]
section
variable {P : Program} {w : World} {t K E : TypeId} {q : IntKind} {b : Nat} {kv : List (Int × Value)} {z : Value}
theorem run_zero (hz : zI P E = some z) (w : World) : (zeroValue E).run P w = .ok z w := by
  unfold zI at hz
  split at hz
  · rename_i i hi
    simp [zeroValue, typeInfo, hi, hz]
  · cases hz
theorem run_look (hu : P.underlying t = some (.map K E)) (hk : P.underlying K = some (.int q)) (hz : zI P E = some z) (hm : mapAt w q b kv) (k : Int) :
    (Instr.lookup t (.map (some b)) (.int q k) true).run P w = .ok (.tuple #[(look kv k).getD z, .bool (look kv k).isSome]) w := by
  obtain ⟨es, ck, hb, he⟩ := hm
  rcases find_int (k := k) es.toList kv 0 he with ⟨j, v, h1, h2⟩ | ⟨h1, h2⟩
  · simp [Instr.lookup, run_underlying hu, MapKept.run_getObj_map hb, MapKept.run_checkKey hk isKey_int, MapKept.run_findKey hk h1, h2, Result.andThen]
  · simp [Instr.lookup, run_underlying hu, MapKept.run_getObj_map hb, MapKept.run_checkKey hk isKey_int, MapKept.run_findKey hk h1, h2, run_zero hz, Result.andThen]
theorem run_look1 (hu : P.underlying t = some (.map K E)) (hk : P.underlying K = some (.int q)) (hz : zI P E = some z) (hm : mapAt w q b kv) (k : Int) :
    (Instr.lookup t (.map (some b)) (.int q k) false).run P w = .ok ((look kv k).getD z) w := by
  obtain ⟨es, ck, hb, he⟩ := hm
  rcases find_int (k := k) es.toList kv 0 he with ⟨j, v, h1, h2⟩ | ⟨h1, h2⟩
  · simp [Instr.lookup, run_underlying hu, MapKept.run_getObj_map hb, MapKept.run_checkKey hk isKey_int, MapKept.run_findKey hk h1, h2, Result.andThen]
  · simp [Instr.lookup, run_underlying hu, MapKept.run_getObj_map hb, MapKept.run_checkKey hk isKey_int, MapKept.run_findKey hk h1, h2, run_zero hz, Result.andThen]
/-- a new key -/
theorem Hm.store {W : World} {D : Nat → Prop} {L : List Ent} {M : List (Nat × IntKind × List (Int × Value))} (h : Hm W D M L w) {i : Nat} (hi : M[i]? = some (b, q, kv)) (hu : P.underlying t = some (.map K E)) (hk : P.underlying K = some (.int q)) {k : Int} (hno : look kv k = none) (v : Value) :
    ∃ w', (Instr.mapUpdate t (.map (some b)) (.int q k) v).run P w = .ok () w' ∧ Hm W D (M.set i (b, q, kv ++ [(k, v)])) L w' := by
  obtain ⟨es, ck, hb, he⟩ := h.map hi
  rcases find_int (k := k) es.toList kv 0 he with ⟨j, v, h1, h2⟩ | ⟨h1, h2⟩
  · rw [hno] at h2; cases h2
  · refine ⟨_, ?_, h.upd hi (kv' := kv ++ [(k, v)]) (es := es.push { key := .int q k, val := v, born := ck }) (ck := ck + 1) ?_⟩
    · simp [Instr.mapUpdate, run_underlying hu, MapKept.run_getObj_map hb, MapKept.run_checkKey hk isKey_int, MapKept.run_findKey hk h1, MapKept.run_setObj_map _ hb, Result.andThen]
    · have he2 : es.toList.map (fun e => (e.key, e.val)) = kv.map (fun p => (Value.int q p.1, p.2)) := he
      simp only [Array.toList_push, List.map_append, he2, List.map_cons, List.map_nil]
theorem run_mkMap (w : World) : (Instr.makeMap t none).run P w = .ok (.map (some w.heap.size)) (w.alloc (.map #[] 0)) := by
  simp [Instr.makeMap, Result.andThen, newObj, Sem.run]
end
section
variable {P : Program} {w0 w : World} {D : Nat → Prop} {L : List Ent} {ops : Array Oper} {Q : Exit → Act → World → Prop} {a : Act} {rest : List Oper}
theorem gLk {dst : Option Tmp} {t ty : TypeId} {m k : Operand} {ok : Bool} {pos : String} {af : Array Edge} {g : Option (Nat × Bool)} (h : wpList P ops Q (⟨dst, .lookup t m k ok, ty, pos, af, g⟩ :: rest) a w) : wpList P ops Q (⟨dst, .lookup t m k ok, ty, pos, af, g⟩ :: rest) a w := h
theorem gMu {dst : Option Tmp} {t ty : TypeId} {m k v : Operand} {pos : String} {af : Array Edge} {g : Option (Nat × Bool)} (h : wpList P ops Q (⟨dst, .mapUpdate t m k v, ty, pos, af, g⟩ :: rest) a w) : wpList P ops Q (⟨dst, .mapUpdate t m k v, ty, pos, af, g⟩ :: rest) a w := h
theorem gMm {dst : Option Tmp} {t ty : TypeId} {r : Option Operand} {pos : String} {af : Array Edge} {g : Option (Nat × Bool)} (h : wpList P ops Q (⟨dst, .makeMap t r, ty, pos, af, g⟩ :: rest) a w) : wpList P ops Q (⟨dst, .makeMap t r, ty, pos, af, g⟩ :: rest) a w := h
theorem wl_lookS {t K E : TypeId} {q : IntKind} {b : Nat} {kv : List (Int × Value)} {z v : Value} {k : Int} {dst : Option Tmp} {ty : TypeId} {m x : Operand} {pos : String} {af : Array Edge} {g : Option (Nat × Bool)}
    (hw : Region.wanted ⟨dst, .lookup t m x true, ty, pos, af, g⟩ (yielded ops a.tmps) = true) (hx : a.eval m = .map (some b)) (hk : a.eval x = .int q k)
    (hu : P.underlying t = some (.map K E)) (hK : P.underlying K = some (.int q)) (hz : zI P E = some z) (hm : mapAt w q b kv) (hl : look kv k = some v)
    (h : wpList P ops Q rest (a.put dst (.tuple #[v, .bool true])) w) : wpList P ops Q (⟨dst, .lookup t m x true, ty, pos, af, g⟩ :: rest) a w :=
  wl_run hw (by have := run_look hu hK hz hm k; rw [hl] at this; simp only [execOp, hx, hk]; simp only [Sem.run_bind, this, Result.andThen_ok, Sem.run_pure, Option.getD_some, Option.isSome_some, Option.getD_none, Option.isSome_none]) h
theorem wl_lookN {t K E : TypeId} {q : IntKind} {b : Nat} {kv : List (Int × Value)} {z : Value} {k : Int} {dst : Option Tmp} {ty : TypeId} {m x : Operand} {pos : String} {af : Array Edge} {g : Option (Nat × Bool)}
    (hw : Region.wanted ⟨dst, .lookup t m x true, ty, pos, af, g⟩ (yielded ops a.tmps) = true) (hx : a.eval m = .map (some b)) (hk : a.eval x = .int q k)
    (hu : P.underlying t = some (.map K E)) (hK : P.underlying K = some (.int q)) (hz : zI P E = some z) (hm : mapAt w q b kv) (hl : look kv k = none)
    (h : wpList P ops Q rest (a.put dst (.tuple #[z, .bool false])) w) : wpList P ops Q (⟨dst, .lookup t m x true, ty, pos, af, g⟩ :: rest) a w :=
  wl_run hw (by have := run_look hu hK hz hm k; rw [hl] at this; simp only [execOp, hx, hk]; simp only [Sem.run_bind, this, Result.andThen_ok, Sem.run_pure, Option.getD_some, Option.isSome_some, Option.getD_none, Option.isSome_none]) h
theorem wl_mapUp {W : World} {E0 : Nat → Prop} {M : List (Nat × IntKind × List (Int × Value))} {t K E : TypeId} {q : IntKind} {b : Nat} {kv : List (Int × Value)} {k : Int} {v : Value} {dst : Option Tmp} {ty : TypeId} {m x va : Operand} {pos : String} {af : Array Edge} {g : Option (Nat × Bool)}
    (hw : Region.wanted ⟨dst, .mapUpdate t m x va, ty, pos, af, g⟩ (yielded ops a.tmps) = true) (hm : a.eval m = .map (some b)) (hk : a.eval x = .int q k) (hv : a.eval va = v) (h : Hm W E0 M L w) (i : Nat) (hi : M[i]? = some (b, q, kv))
    (hu : P.underlying t = some (.map K E)) (hK : P.underlying K = some (.int q)) (hno : look kv k = none)
    (kk : ∀ w', Hm W E0 (M.set i (b, q, kv ++ [(k, v)])) L w' → wpList P ops Q rest (a.put dst undef) w') : wpList P ops Q (⟨dst, .mapUpdate t m x va, ty, pos, af, g⟩ :: rest) a w := by
  obtain ⟨w', hr, h'⟩ := h.store hi hu hK hno v
  exact wl_skip hw (by simp only [execOp, hm, hk, hv, Sem.run_bind, Sem.run_pure, Result.andThen_ok, hr]) (kk w' h')
theorem wl_mkMap {W : World} {E0 : Nat → Prop} {M : List (Nat × IntKind × List (Int × Value))} {t ty : TypeId} {dst : Option Tmp} {pos : String} {af : Array Edge} {g : Option (Nat × Bool)} (q : IntKind)
    (hw : Region.wanted ⟨dst, .makeMap t none, ty, pos, af, g⟩ (yielded ops a.tmps) = true) (h : Hm W E0 M L w)
    (kk : ∀ b w', Hm W E0 ((b, q, []) :: M) L w' → wpList P ops Q rest (a.put dst (.map (some b))) w') : wpList P ops Q (⟨dst, .makeMap t none, ty, pos, af, g⟩ :: rest) a w :=
  wl_run hw (by simp only [execOp, Option.map_none]; simp only [Sem.run_bind, run_mkMap, Result.andThen_ok, Sem.run_pure]) (kk _ _ (h.made q))
theorem wl_look {t K E : TypeId} {q : IntKind} {b : Nat} {kv : List (Int × Value)} {z : Value} {k : Int} {dst : Option Tmp} {ty : TypeId} {m x : Operand} {pos : String} {af : Array Edge} {g : Option (Nat × Bool)}
    (hw : Region.wanted ⟨dst, .lookup t m x true, ty, pos, af, g⟩ (yielded ops a.tmps) = true) (hx : a.eval m = .map (some b)) (hk : a.eval x = .int q k)
    (hu : P.underlying t = some (.map K E)) (hK : P.underlying K = some (.int q)) (hz : zI P E = some z) (hm : mapAt w q b kv)
    (h : wpList P ops Q rest (a.put dst (.tuple #[(look kv k).getD z, .bool (look kv k).isSome])) w) : wpList P ops Q (⟨dst, .lookup t m x true, ty, pos, af, g⟩ :: rest) a w :=
  wl_run hw (by simp only [execOp, hx, hk]; simp only [Sem.run_bind, run_look hu hK hz hm k, Result.andThen_ok, Sem.run_pure]) h
end
end Go.Gx

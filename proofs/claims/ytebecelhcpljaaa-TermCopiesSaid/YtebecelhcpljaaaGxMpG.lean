/-
  Maps of the call's own beside Hp, their keys as values; texts for keys. Generic: no program in sight.
-/
import Derived.Test.YtebecelhcpljaaaGxMp
set_option linter.unusedVariables false
set_option linter.unusedSimpArgs false
namespace Go.Gx
open Go.MapKept
/-- a map, its keys as values -/
def mapG (w : World) (b : Nat) (kv : List (Value × Value)) : Prop :=
  ∃ es ck, w.heap[b]? = some (.map es ck) ∧ es.toList.map (fun e => (e.key, e.val)) = kv
/-- Hp, and maps that the call made: (block, kind of key, what it holds) -/
def Hg (W : World) (E : Nat → Prop) (M : List (Nat × List (Value × Value))) (L : List Ent) (w : World) : Prop :=
  ∃ w0 D, Exm W E w0 D ∧ Hp w0 D L w ∧ (∀ (i : Nat) (m : Nat × List (Value × Value)), M[i]? = some m → ¬ D m.1 ∧ m.1 < w0.heap.size ∧ mapG w0 m.1 m.2 ∧ (E m.1 ∨ W.heap.size ≤ m.1))
    ∧ ∀ (i j : Nat) (m n : Nat × List (Value × Value)), M[i]? = some m → M[j]? = some n → m.1 = n.1 → i = j
section
variable {W w : World} {E : Nat → Prop} {L : List Ent} {M : List (Nat × List (Value × Value))}
theorem Hg.of (H : Hp W E L w) : Hg W E [] L w := ⟨W, E, Exm.refl W E, H, by simp, by simp⟩
theorem Hg.hp (h : Hg W E M L w) : Hp W E L w := by obtain ⟨w0, D, X, H, _⟩ := h; exact X.hp H
/-- a contract over Hp serves -/
theorem Hg.calls {P : Program} {f : Nat} {args : Array Value} {Post : Ending → (List Ent → World → Prop) → World → Prop} (h : Hg W E M L w)
    (hmono : ∀ e w' (A B : List Ent → World → Prop), (∀ L' u, A L' u → B L' u) → Post e A w' → Post e B w')
    (k : ∀ w0 D, Hp w0 D L w → Calls P f args w fun e w' => Post e (fun L' u => Hp w0 D L' u) w') : Calls P f args w fun e w' => Post e (fun L' u => Hg W E M L' u) w' := by
  obtain ⟨w0, D, X, H, h1, h2⟩ := h
  exact (k w0 D H).mono fun e w' hp => hmono e w' _ _ (fun L' u hu => ⟨w0, D, X, hu, h1, h2⟩) hp
/-- .. of one shape -/
theorem Hg.calls1 {P : Program} {f : Nat} {args : Array Value} {v : Ending} {L' : List Ent} (h : Hg W E M L w)
    (k : ∀ w0 D, Hp w0 D L w → Calls P f args w fun e w' => e = v ∧ Hp w0 D L' w') : Calls P f args w fun e w' => e = v ∧ Hg W E M L' w' := by
  obtain ⟨w0, D, X, H, h1, h2⟩ := h
  exact (k w0 D H).mono fun e w' hp => ⟨hp.1, ⟨w0, D, X, hp.2, h1, h2⟩⟩
/-- the walk's step: any step over Hp that leaves Hp -/
theorem Hg.open (h : Hg W E M L w) : ∃ w0 D, Hp w0 D L w ∧ (∀ L' u, Hp w0 D L' u → Hg W E M L' u) := by
  obtain ⟨w0, D, X, H, h1, h2⟩ := h
  exact ⟨w0, D, H, fun L' u hu => ⟨w0, D, X, hu, h1, h2⟩⟩
theorem Hg.open1 (h : Hg W E M L w) {i : Nat} {m : Nat × List (Value × Value)} (hi : M[i]? = some m) :
    ∃ w0 D, Hp w0 D L w ∧ (∀ L' u, Hp w0 D L' u → Hg W E M L' u) ∧ (∀ L' u, Hp w0 D L' u → mapG u m.1 m.2) := by
  obtain ⟨w0, D, X, H, h1, h2⟩ := h
  refine ⟨w0, D, H, fun L' u hu => ⟨w0, D, X, hu, h1, h2⟩, fun L' u hu => ?_⟩
  obtain ⟨hD, hlt, ⟨es, ck, hb, he⟩, _⟩ := h1 i m hi
  exact ⟨es, ck, by rw [hu.frame _ hlt hD]; exact hb, he⟩
theorem Hg.map (h : Hg W E M L w) {i : Nat} {m : Nat × List (Value × Value)} (hi : M[i]? = some m) : mapG w m.1 m.2 := by
  obtain ⟨w0, D, X, H, h1, h2⟩ := h
  obtain ⟨hD, hlt, ⟨es, ck, hb, he⟩, _⟩ := h1 i m hi
  exact ⟨es, ck, by rw [H.frame _ hlt hD]; exact hb, he⟩
theorem Hg.drop {m : Nat × List (Value × Value)} (h : Hg W E (m :: M) L w) : Hg W E M L w := by
  obtain ⟨w0, D, X, H, h1, h2⟩ := h
  exact ⟨w0, D, X, H, fun i m hi => h1 (i + 1) m (by simpa using hi), fun i j m n hi hj e => by have := h2 (i + 1) (j + 1) m n (by simpa using hi) (by simpa using hj) e; omega⟩
theorem Hg.sub {M' : List (Nat × List (Value × Value))} (h : Hg W E M L w) (f : Nat → Nat) (hf : ∀ i j, f i = f j → i = j) (hM : ∀ i m, M'[i]? = some m → M[f i]? = some m) : Hg W E M' L w := by
  obtain ⟨w0, D, X, H, h1, h2⟩ := h
  exact ⟨w0, D, X, H, fun i m hi => h1 (f i) m (hM i m hi), fun i j m n hi hj e => hf i j (h2 (f i) (f j) m n (hM i m hi) (hM j n hj) e)⟩
theorem Hg.swap {A B : List (Nat × List (Value × Value))} (h : Hg W E (A ++ (B ++ M)) L w) : Hg W E (B ++ (A ++ M)) L w :=
  h.sub (fun i => if i < B.length then A.length + i else if i < B.length + A.length then i - B.length else i) (fun i j h => by (try dsimp only at h); split at h <;> split at h <;> (try split at h) <;> (try split at h) <;> omega) (fun i x h => by
    (try dsimp only)
    split
    · rename_i hi
      rw [List.getElem?_append_left hi] at h
      rw [List.getElem?_append_right (by omega), List.getElem?_append_left (by omega)]
      simpa using h
    · rename_i hi
      rw [List.getElem?_append_right (by omega)] at h
      split
      · rename_i hi2
        rw [List.getElem?_append_left (by omega)] at h
        rw [List.getElem?_append_left (by omega)]
        exact h
      · rename_i hi2
        rw [List.getElem?_append_right (by omega)] at h
        rw [List.getElem?_append_right (by omega), List.getElem?_append_right (by omega)]
        rw [← h]; congr 1; omega)
theorem Hg.mono (h : Hg W E M L w) {L' : List Ent} {w' : World} (k : ∀ w0 D, Hp w0 D L w → Hp w0 D L' w') : Hg W E M L' w' := by
  obtain ⟨w0, D, X, H, h1, h2⟩ := h
  exact ⟨w0, D, X, k w0 D H, h1, h2⟩
/-- a map is made -/
theorem Hg.made (h : Hg W E M L w) : Hg W E ((w.heap.size, []) :: M) L (w.alloc (.map #[] 0)) := by
  have hW := h.hp
  obtain ⟨w0, D, X, H, h1, h2⟩ := h
  have hlt : ∀ (i : Nat) (x : Ent) (b : Nat), L[i]? = some x → x.a = some b → b < w.heap.size := fun i x b hi ha => H.lt hi ha
  have ea : ∀ b, b < w.heap.size → (w.alloc (.map #[] 0)).heap[b]? = w.heap[b]? := fun b hb => (heap_alloc w _).2 b hb
  have es : (w.alloc (.map #[] 0)).heap.size = w.heap.size + 1 := by show (w.heap.push _).size = _; simp
  have hm : ∀ (i : Nat) (m : Nat × List (Value × Value)), M[i]? = some m → m.1 < w.heap.size := fun i m hi => Nat.lt_of_lt_of_le (h1 i m hi).2.1 H.size
  refine ⟨w.alloc (.map #[] 0), fun b => b ≠ w.heap.size ∧ (D b ∨ w0.heap.size ≤ b), ⟨?_, ?_, ?_, ?_, ?_⟩, ⟨rfl, rfl, rfl, Nat.le_refl _, fun _ _ _ => rfl, ?_, ?_, H.apart⟩, ?_, ?_⟩
  · exact H.os.trans X.os
  · exact H.tape.trans X.tape
  · exact H.output.trans X.output
  · rw [es]; have := X.size; have := H.size; omega
  · intro b hb hE
    have k := X.keep b hb hE
    have := X.size
    have := H.size
    refine ⟨fun hh => ?_, ?_⟩
    · rcases hh.2 with h3 | h3
      · exact k.1 h3
      · omega
    · rw [ea b (by omega), H.frame b (by omega) k.1, k.2]
  · intro i x hi
    exact Ent.at_of_heap (H.ents i x hi) fun b hb => ea b (hlt i x b hi hb)
  · intro i x b hi ha
    have := hlt i x b hi ha
    exact .inl ⟨by omega, H.mine i x b hi ha⟩
  · intro i m hi
    cases i with
    | zero =>
      simp only [List.getElem?_cons_zero, Option.some.injEq] at hi
      subst hi
      exact ⟨fun hh => hh.1 rfl, by rw [es]; simp, ⟨#[], 0, (heap_alloc w _).1, rfl⟩, .inr (by have := X.size; have := H.size; omega)⟩
    | succ i =>
      have hi : M[i]? = some m := by simpa using hi
      have hlt2 := hm i m hi
      obtain ⟨a1, a2, ⟨es1, ck, a3, a4⟩, a5⟩ := h1 i m hi
      refine ⟨fun hh => ?_, by rw [es]; omega, ⟨es1, ck, by rw [ea _ hlt2, H.frame _ a2 a1]; exact a3, a4⟩, a5⟩
      rcases hh.2 with h3 | h3
      · exact a1 h3
      · omega
  · intro i j m n hi hj e
    cases i with
    | zero =>
      cases j with
      | zero => rfl
      | succ j =>
        simp only [List.getElem?_cons_zero, Option.some.injEq] at hi
        subst hi
        have := hm j n (by simpa using hj)
        have e : w.heap.size = n.1 := e
        omega
    | succ i =>
      cases j with
      | zero =>
        simp only [List.getElem?_cons_zero, Option.some.injEq] at hj
        subst hj
        have := hm i m (by simpa using hi)
        have e : m.1 = w.heap.size := e
        omega
      | succ j => rw [h2 i j m n (by simpa using hi) (by simpa using hj) e]
/-- a map turns -/
theorem Hg.upd (h : Hg W E M L w) {i : Nat} {b : Nat} {kv kv' : List (Value × Value)} (hi : M[i]? = some (b, kv)) {es : Array MapEntry} {ck : Nat} (he : es.toList.map (fun e => (e.key, e.val)) = kv') :
    Hg W E (M.set i (b, kv')) L { w with heap := w.heap.setIfInBounds b (.map es ck) } := by
  obtain ⟨w0, D, X, H, h1, h2⟩ := h
  obtain ⟨a1, a2, ⟨es1, ck1, a3, a4⟩, a5⟩ := h1 i _ hi
  have a1 : ¬ D b := a1
  have a2 : b < w0.heap.size := a2
  have a5 : E b ∨ W.heap.size ≤ b := a5
  have hil : i < M.length := (List.getElem?_eq_some_iff.1 hi).1
  have s0 : ∀ c, c ≠ b → (w0.heap.setIfInBounds b (.map es ck))[c]? = w0.heap[c]? := fun c hc => by simp [Ne.symm hc]
  have s1 : ∀ c, c ≠ b → (w.heap.setIfInBounds b (.map es ck))[c]? = w.heap[c]? := fun c hc => by simp [Ne.symm hc]
  have hbw : b < w.heap.size := Nat.lt_of_lt_of_le a2 H.size
  have hne : ∀ (j : Nat) (x : Ent) (c : Nat), L[j]? = some x → x.a = some c → c ≠ b := by
    intro j x c hj ha e
    subst e
    rcases H.mine j x c hj ha with h3 | h3
    · exact a1 h3
    · omega
  refine ⟨{ w0 with heap := w0.heap.setIfInBounds b (.map es ck) }, D, ⟨X.os, X.tape, X.output, by show _ ≤ (w0.heap.setIfInBounds b _).size; rw [Array.size_setIfInBounds]; exact X.size, ?_⟩, ⟨H.os, H.tape, H.output, ?_, ?_, ?_, ?_, H.apart⟩, ?_, ?_⟩
  · intro c hc hE
    have hcb : c ≠ b := fun e => by subst e; rcases a5 with h3 | h3; exact hE h3; omega
    have k := X.keep c hc hE
    exact ⟨k.1, by show (w0.heap.setIfInBounds b _)[c]? = _; rw [s0 c hcb]; exact k.2⟩
  · show (w0.heap.setIfInBounds b _).size ≤ (w.heap.setIfInBounds b _).size
    rw [Array.size_setIfInBounds, Array.size_setIfInBounds]; exact H.size
  · intro c hc hD
    have hc : c < w0.heap.size := by simpa using hc
    show (w.heap.setIfInBounds b _)[c]? = (w0.heap.setIfInBounds b _)[c]?
    by_cases hcb : c = b
    · subst hcb
      rw [show (w.heap.setIfInBounds c (Obj.map es ck))[c]? = some (Obj.map es ck) by simp [hbw], show (w0.heap.setIfInBounds c (Obj.map es ck))[c]? = some (Obj.map es ck) by simp [a2]]
    · rw [s0 c hcb, s1 c hcb]; exact H.frame c hc hD
  · intro j x hj
    exact Ent.at_of_heap (H.ents j x hj) fun c hc => s1 c (hne j x c hj hc)
  · intro j x c hj ha
    rcases H.mine j x c hj ha with h3 | h3
    · exact .inl h3
    · exact .inr (by show (w0.heap.setIfInBounds b _).size ≤ c; rw [Array.size_setIfInBounds]; exact h3)
  · intro j m hj
    by_cases hji : j = i
    · subst hji
      rw [List.getElem?_set_self hil] at hj
      cases hj
      exact ⟨a1, by show b < (w0.heap.setIfInBounds b _).size; rw [Array.size_setIfInBounds]; exact a2, ⟨es, ck, by show (w0.heap.setIfInBounds b _)[b]? = _; simp [a2], he⟩, a5⟩
    · rw [List.getElem?_set_ne (Ne.symm hji)] at hj
      obtain ⟨c1, c2, ⟨es2, ck2, c3, c4⟩, c5⟩ := h1 j m hj
      have hcb : m.1 ≠ b := fun e => hji (h2 j i m _ hj hi e)
      exact ⟨c1, by show m.1 < (w0.heap.setIfInBounds b _).size; rw [Array.size_setIfInBounds]; exact c2, ⟨es2, ck2, by show (w0.heap.setIfInBounds b _)[m.1]? = _; rw [s0 _ hcb]; exact c3, c4⟩, c5⟩
  · intro j k m n hj hk e
    have get : ∀ (j : Nat) (m : Nat × List (Value × Value)), (M.set i (b, kv'))[j]? = some m → ∃ m', M[j]? = some m' ∧ m'.1 = m.1 := by
      intro j m hj
      by_cases hji : j = i
      · subst hji; rw [List.getElem?_set_self hil] at hj; cases hj; exact ⟨_, hi, rfl⟩
      · rw [List.getElem?_set_ne (Ne.symm hji)] at hj; exact ⟨m, hj, rfl⟩
    obtain ⟨m', hm', e1⟩ := get j m hj
    obtain ⟨n', hn', e2⟩ := get k n hk
    exact h2 j k m' n' hm' hn' (by rw [e1, e2, e])
end


/-! ### texts for keys -/
abbrev kvS (l : List (ByteArray × Value)) : List (Value × Value) := l.map fun p => (.string p.1, p.2)
def lookS (kv : List (ByteArray × Value)) (k : ByteArray) : Option Value := (kv.find? fun p => decide (p.1 = k)).map (·.2)
theorem find_S {k : ByteArray} : ∀ (es : List MapEntry) (kv : List (ByteArray × Value)) (i : Nat), es.map (fun e => (e.key, e.val)) = kvS kv →
    (∃ j v, Instr.findNow .string (.string k) es i = some (some (j, v)) ∧ lookS kv k = some v) ∨ (Instr.findNow .string (.string k) es i = some none ∧ lookS kv k = none)
  | [], kv, i, h => by
    cases kv with
    | nil => exact .inr ⟨rfl, rfl⟩
    | cons p kv => cases h
  | e :: es, kv, i, h => by
    cases kv with
    | nil => cases h
    | cons p kv =>
      simp only [kvS, List.map_cons, List.cons.injEq, Prod.mk.injEq] at h
      obtain ⟨⟨h1, h2⟩, h3⟩ := h
      have hs : Instr.sameNow .string (.string k) e.key = some (k == p.1) := by rw [h1]; simp [Instr.sameNow]
      by_cases hk : p.1 = k
      · have hb : (k == p.1) = true := (bytes_beq _ _).2 hk.symm
        rw [hb] at hs
        exact .inl ⟨i, e.val, by simp [Instr.findNow, hs], by simp [lookS, List.find?_cons, hk, h2]⟩
      · have hb : (k == p.1) = false := by
          cases h : (k == p.1) with
          | false => rfl
          | true => exact absurd ((bytes_beq _ _).1 h).symm hk
        rw [hb] at hs
        have hl : lookS (p :: kv) k = lookS kv k := by simp [lookS, List.find?_cons, hk]
        rw [hl]
        rcases find_S es kv (i + 1) h3 with ⟨j, v, g1, g2⟩ | ⟨g1, g2⟩
        · exact .inl ⟨j, v, by simp [Instr.findNow, hs, g1], g2⟩
        · exact .inr ⟨by simp [Instr.findNow, hs, g1], g2⟩
theorem isKey_S {k : ByteArray} : IsKey .string (.string k) := by simp [IsKey]
section
variable {P : Program} {w : World} {t K E : TypeId} {b : Nat} {kv : List (ByteArray × Value)} {z : Value}
theorem run_lookS (hu : P.underlying t = some (.map K E)) (hk : P.underlying K = some .string) (hz : zI P E = some z) (hm : mapG w b (kvS kv)) (k : ByteArray) :
    (Instr.lookup t (.map (some b)) (.string k) true).run P w = .ok (.tuple #[(lookS kv k).getD z, .bool (lookS kv k).isSome]) w := by
  obtain ⟨es, ck, hb, he⟩ := hm
  rcases find_S (k := k) es.toList kv 0 he with ⟨j, v, h1, h2⟩ | ⟨h1, h2⟩
  · simp [Instr.lookup, run_underlying hu, MapKept.run_getObj_map hb, MapKept.run_checkKey hk isKey_S, MapKept.run_findKey hk h1, h2, Result.andThen]
  · simp [Instr.lookup, run_underlying hu, MapKept.run_getObj_map hb, MapKept.run_checkKey hk isKey_S, MapKept.run_findKey hk h1, h2, run_zero hz, Result.andThen]
/-- a new key -/
theorem Hg.storeS {W : World} {D : Nat → Prop} {L : List Ent} {M : List (Nat × List (Value × Value))} (h : Hg W D M L w) {i : Nat} (hi : M[i]? = some (b, kvS kv)) (hu : P.underlying t = some (.map K E)) (hk : P.underlying K = some .string) {k : ByteArray} (hno : lookS kv k = none) (v : Value) :
    ∃ w', (Instr.mapUpdate t (.map (some b)) (.string k) v).run P w = .ok () w' ∧ Hg W D (M.set i (b, kvS (kv ++ [(k, v)]))) L w' := by
  obtain ⟨es, ck, hb, he⟩ := h.map hi
  rcases find_S (k := k) es.toList kv 0 he with ⟨j, v, h1, h2⟩ | ⟨h1, h2⟩
  · rw [hno] at h2; cases h2
  · refine ⟨_, ?_, h.upd hi (kv' := kvS (kv ++ [(k, v)])) (es := es.push { key := .string k, val := v, born := ck }) (ck := ck + 1) ?_⟩
    · simp [Instr.mapUpdate, run_underlying hu, MapKept.run_getObj_map hb, MapKept.run_checkKey hk isKey_S, MapKept.run_findKey hk h1, MapKept.run_setObj_map _ hb, Result.andThen]
    · have he2 : es.toList.map (fun e => (e.key, e.val)) = kvS kv := he
      simp only [kvS, Array.toList_push, List.map_append, he2, List.map_cons, List.map_nil]
end
section
variable {P : Program} {w0 w : World} {D : Nat → Prop} {L : List Ent} {ops : Array Oper} {Q : Exit → Act → World → Prop} {a : Act} {rest : List Oper}
theorem wl_lookG {t K E : TypeId} {b : Nat} {kv : List (ByteArray × Value)} {z : Value} {r : Option Value} {k : ByteArray} {dst : Option Tmp} {ty : TypeId} {m x : Operand} {pos : String} {af : Array Edge} {g : Option (Nat × Bool)}
    (hw : Region.wanted ⟨dst, .lookup t m x true, ty, pos, af, g⟩ (yielded ops a.tmps) = true) (hx : a.eval m = .map (some b)) (hk : a.eval x = .string k)
    (hu : P.underlying t = some (.map K E)) (hK : P.underlying K = some .string) (hz : zI P E = some z) (hm : mapG w b (kvS kv)) (hr : lookS kv k = r)
    (h : wpList P ops Q rest (a.put dst (.tuple #[r.getD z, .bool r.isSome])) w) : wpList P ops Q (⟨dst, .lookup t m x true, ty, pos, af, g⟩ :: rest) a w := by
  subst hr
  exact wl_run hw (by simp only [execOp, hx, hk]; simp only [Sem.run_bind, run_lookS hu hK hz hm k, Result.andThen_ok, Sem.run_pure]) h
theorem wl_mapUpS {W : World} {E0 : Nat → Prop} {M : List (Nat × List (Value × Value))} {t K E : TypeId} {b : Nat} {kv : List (ByteArray × Value)} {k : ByteArray} {v : Value} {dst : Option Tmp} {ty : TypeId} {m x va : Operand} {pos : String} {af : Array Edge} {g : Option (Nat × Bool)}
    (hw : Region.wanted ⟨dst, .mapUpdate t m x va, ty, pos, af, g⟩ (yielded ops a.tmps) = true) (hm : a.eval m = .map (some b)) (hk : a.eval x = .string k) (hv : a.eval va = v) (h : Hg W E0 M L w) (i : Nat) (hi : M[i]? = some (b, kvS kv))
    (hu : P.underlying t = some (.map K E)) (hK : P.underlying K = some .string) (hno : lookS kv k = none)
    (kk : ∀ w', Hg W E0 (M.set i (b, kvS (kv ++ [(k, v)]))) L w' → wpList P ops Q rest (a.put dst undef) w') : wpList P ops Q (⟨dst, .mapUpdate t m x va, ty, pos, af, g⟩ :: rest) a w := by
  obtain ⟨w', hr, h'⟩ := h.storeS hi hu hK hno v
  exact wl_skip hw (by simp only [execOp, hm, hk, hv, Sem.run_bind, Sem.run_pure, Result.andThen_ok, hr]) (kk w' h')
theorem wl_mkMapG {W : World} {E0 : Nat → Prop} {M : List (Nat × List (Value × Value))} {t ty : TypeId} {dst : Option Tmp} {pos : String} {af : Array Edge} {g : Option (Nat × Bool)}
    (hw : Region.wanted ⟨dst, .makeMap t none, ty, pos, af, g⟩ (yielded ops a.tmps) = true) (h : Hg W E0 M L w)
    (kk : ∀ b w', Hg W E0 ((b, []) :: M) L w' → wpList P ops Q rest (a.put dst (.map (some b))) w') : wpList P ops Q (⟨dst, .makeMap t none, ty, pos, af, g⟩ :: rest) a w :=
  wl_run hw (by simp only [execOp, Option.map_none]; simp only [Sem.run_bind, run_mkMap, Result.andThen_ok, Sem.run_pure]) (kk _ _ h.made)
end
end Go.Gx

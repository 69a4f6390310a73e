/-
  What a call knows of memory, as one hypothesis: blocks of its own with what they begin with, and that of all other old blocks nothing has turned. Laws for the walk's operations over it. Generic: no program in sight.
-/
import Derived.WalkKit
import Derived.WalkSpells
import Derived.Laws.CopyRow
import Derived.Laws.Tables
import Derived.Deep.Draws
import Derived.Laws.StructEq
set_option linter.unusedVariables false
set_option linter.unusedSimpArgs false
namespace Go.Gx

/-- A block (or none: nil) of N cells that begins with xs. -/
structure Ent where
  a : Option Nat
  xs : List Value
  e : TypeId
  N : Nat
def Ent.at (x : Ent) (w : World) : Prop :=
  match x.a with
  | none => x.xs = [] ∧ x.N = 0
  | some b => ∃ cur : Array Value, w.heap[b]? = some (.cells cur x.e (0, 0)) ∧ cur.size = x.N ∧ cur.toList.take x.xs.length = x.xs

theorem Ent.at_some {x : Ent} {w : World} {b : Nat} (h : x.at w) (hb : x.a = some b) : ∃ cur : Array Value, w.heap[b]? = some (.cells cur x.e (0, 0)) ∧ cur.size = x.N ∧ cur.toList.take x.xs.length = x.xs := by
  unfold Ent.at at h; rw [hb] at h; exact h
theorem Ent.at_of_heap {x : Ent} {w w' : World} (h : x.at w) (hh : ∀ b, x.a = some b → w'.heap[b]? = w.heap[b]?) : x.at w' := by
  unfold Ent.at at *
  cases hx : x.a with
  | none => rw [hx] at h; exact h
  | some b => rw [hx] at h; simp only [] at h ⊢; rw [hh b hx]; exact h
theorem lt_of_heap {w : World} {b : Nat} {o : Obj} (h : w.heap[b]? = some o) : b < w.heap.size := (Array.getElem?_eq_some_iff.1 h).1

structure Hp (w0 : World) (D : Nat → Prop) (L : List Ent) (w : World) : Prop where
  os : w.os = w0.os
  tape : w.tape = w0.tape
  output : w.output = w0.output
  size : w0.heap.size ≤ w.heap.size
  frame : ∀ b, b < w0.heap.size → ¬ D b → w.heap[b]? = w0.heap[b]?
  ents : ∀ (i : Nat) (x : Ent), L[i]? = some x → x.at w
  mine : ∀ (i : Nat) (x : Ent) (b : Nat), L[i]? = some x → x.a = some b → D b ∨ w0.heap.size ≤ b
  apart : ∀ (i j : Nat) (x y : Ent) (b : Nat), L[i]? = some x → L[j]? = some y → x.a = some b → y.a = some b → i = j

section
variable {w0 w w' : World} {D : Nat → Prop} {L : List Ent}

theorem Hp.start (w : World) : Hp w (fun _ => False) [] w := ⟨rfl, rfl, rfl, Nat.le_refl _, fun _ _ _ => rfl, fun i x h => by simp at h, fun i x b h => by simp at h, fun i j x y b h => by simp at h⟩
theorem Hp.of_heap (H : Hp w0 D L w) (hh : w'.heap = w.heap) (h1 : w'.os = w.os) (h2 : w'.tape = w.tape) (h3 : w'.output = w.output) : Hp w0 D L w' :=
  ⟨h1.trans H.os, h2.trans H.tape, h3.trans H.output, by rw [hh]; exact H.size, fun b hb hd => by rw [hh]; exact H.frame b hb hd,
    fun i x hx => Ent.at_of_heap (H.ents i x hx) fun b _ => by rw [hh], H.mine, H.apart⟩
theorem Hp.drew (H : Hp w0 D L w) : Hp w0 D L w.drew := H.of_heap rfl rfl rfl rfl
theorem Hp.drewN (H : Hp w0 D L w) (n : Nat) : Hp w0 D L (w.drewN n) := H.of_heap rfl rfl rfl rfl
theorem Hp.sub (H : Hp w0 D L w) {L' : List Ent} (f : Nat → Nat) (hf : ∀ i j, f i = f j → i = j) (h : ∀ (i : Nat) (x : Ent), L'[i]? = some x → L[f i]? = some x) : Hp w0 D L' w :=
  ⟨H.os, H.tape, H.output, H.size, H.frame, fun i x hx => H.ents _ x (h i x hx), fun i x b hx => H.mine _ x b (h i x hx), fun i j x y b hx hy h1 h2 => hf _ _ (H.apart _ _ x y b (h i x hx) (h j y hy) h1 h2)⟩
theorem Hp.drop {x : Ent} (H : Hp w0 D (x :: L) w) : Hp w0 D L w := H.sub (· + 1) (fun i j h => by simpa using h) (fun i x h => by simpa using h)
theorem Hp.dropAt (i : Nat) (H : Hp w0 D L w) : Hp w0 D (L.eraseIdx i) w :=
  H.sub (fun j => if j < i then j else j + 1) (fun a b h => by (try dsimp only at h); split at h <;> split at h <;> omega) (fun j x h => by
    rw [List.getElem?_eraseIdx] at h; (try dsimp only); split at h <;> rename_i hc <;> simp only [hc, if_true, if_false] <;> exact h)
theorem Hp.consNone (H : Hp w0 D L w) (e : TypeId) : Hp w0 D (⟨none, [], e, 0⟩ :: L) w :=
  ⟨H.os, H.tape, H.output, H.size, H.frame, fun i x hx => by
    cases i with
    | zero => simp at hx; subst hx; exact ⟨rfl, rfl⟩
    | succ i => exact H.ents i x (by simpa using hx), fun i x b hx hb => by
    cases i with
    | zero => simp at hx; subst hx; cases hb
    | succ i => exact H.mine i x b (by simpa using hx) hb, fun i j x y b hx hy h1 h2 => by
    cases i with
    | zero => simp at hx; subst hx; cases h1
    | succ i => cases j with
      | zero => simp at hy; subst hy; cases h2
      | succ j => rw [H.apart i j x y b (by simpa using hx) (by simpa using hy) h1 h2]⟩
theorem Hp.pre (n : Nat) (H : Hp w0 D L w) : Hp w0 D (L.take n) w := H.sub id (fun i j h => h) (fun i x h => by
  rw [List.getElem?_take] at h; split at h
  · exact h
  · cases h)
theorem Hp.swap {A B : List Ent} (H : Hp w0 D (A ++ (B ++ L)) w) : Hp w0 D (B ++ (A ++ L)) w :=
  H.sub (fun i => if i < B.length then A.length + i else if i < B.length + A.length then i - B.length else i) (fun i j h => by (try dsimp only at h); split at h <;> split at h <;> (try split at h) <;> (try split at h) <;> omega) (fun i x h => by
    (try dsimp only)
    split
    · rename_i hi
      rw [List.getElem?_append_left hi] at h
      rw [List.getElem?_append_right (by omega), List.getElem?_append_left (by omega)]
      simpa using h
    · rename_i hi
      rw [List.getElem?_append_right (by omega)] at h
      split
      · rename_i hi2
        rw [List.getElem?_append_left (by omega)] at h
        rw [List.getElem?_append_left (by omega)]
        exact h
      · rename_i hi2
        rw [List.getElem?_append_right (by omega)] at h
        rw [List.getElem?_append_right (by omega), List.getElem?_append_right (by omega)]
        rw [← h]; congr 1; omega)
theorem Hp.dropL {A : List Ent} (H : Hp w0 D (A ++ L) w) : Hp w0 D L w :=
  H.sub (A.length + ·) (fun i j h => by (try dsimp only at h); omega) (fun i x h => by (try dsimp only); rw [List.getElem?_append_right (by omega)]; simpa using h)

theorem Hp.upd (H : Hp w0 D L w) {i : Nat} {x y : Ent} (hi : L[i]? = some x) (h1 : w'.os = w.os) (h2 : w'.tape = w.tape) (h3 : w'.output = w.output) (hs : w.heap.size ≤ w'.heap.size)
    (hfr : ∀ b, b < w.heap.size → x.a ≠ some b → w'.heap[b]? = w.heap[b]?) (hy : y.at w') (hya : y.a = x.a ∨ ∃ b, y.a = some b ∧ w.heap.size ≤ b) : Hp w0 D (L.set i y) w' := by
  have hlt : i < L.length := (List.getElem?_eq_some_iff.1 hi).1
  have get : ∀ (j : Nat) (z : Ent), (L.set i y)[j]? = some z → (j = i ∧ z = y) ∨ (j ≠ i ∧ L[j]? = some z) := by
    intro j z hz
    by_cases hj : j = i
    · subst hj; rw [List.getElem?_set_self hlt] at hz; exact .inl ⟨rfl, (Option.some.inj hz).symm⟩
    · rw [List.getElem?_set_ne (Ne.symm hj)] at hz; exact .inr ⟨hj, hz⟩
  have old : ∀ (j : Nat) (z : Ent) (b : Nat), L[j]? = some z → z.a = some b → b < w.heap.size := by
    intro j z b hz hb
    obtain ⟨cur, hc, _⟩ := Ent.at_some (H.ents j z hz) hb
    exact lt_of_heap hc
  refine ⟨h1.trans H.os, h2.trans H.tape, h3.trans H.output, Nat.le_trans H.size hs, fun b hb hd => ?_, fun j z hz => ?_, fun j z b hz hb => ?_, fun j k z u b hz hu hzb hub => ?_⟩
  · rw [hfr b (Nat.lt_of_lt_of_le hb H.size) (fun hx => by rcases H.mine i x b hi hx with h | h <;> first | exact hd h | omega)]
    exact H.frame b hb hd
  · rcases get j z hz with ⟨_, rfl⟩ | ⟨hj, hz⟩
    · exact hy
    · exact Ent.at_of_heap (H.ents j z hz) fun b hb => hfr b (old j z b hz hb) fun hx => hj (H.apart j i z x b hz hi hb hx)
  · rcases get j z hz with ⟨_, rfl⟩ | ⟨hj, hz⟩
    · rcases hya with hya | ⟨b', hb', hle⟩
      · exact H.mine i x b hi (hya ▸ hb)
      · rw [hb'] at hb; cases hb; exact .inr (Nat.le_trans H.size hle)
    · exact H.mine j z b hz hb
  · rcases get j z hz with ⟨rfl, rfl⟩ | ⟨hj, hz'⟩ <;> rcases get k u hu with ⟨rfl, rfl⟩ | ⟨hk, hu'⟩
    · rfl
    · rcases hya with hya | ⟨b', hb', hle⟩
      · exact absurd (H.apart k j u x b hu' hi hub (hya ▸ hzb)) hk
      · rw [hb'] at hzb; cases hzb; have := old k u _ hu' hub; omega
    · rcases hya with hya | ⟨b', hb', hle⟩
      · exact absurd (H.apart j k z x b hz' hi hzb (hya ▸ hub)) hj
      · rw [hb'] at hub; cases hub; have := old j z _ hz' hzb; omega
    · exact H.apart j k z u b hz' hu' hzb hub

theorem Hp.push (H : Hp w0 D L w) {y : Ent} (h1 : w'.os = w.os) (h2 : w'.tape = w.tape) (h3 : w'.output = w.output) (hs : w.heap.size ≤ w'.heap.size)
    (hfr : ∀ b, b < w.heap.size → w'.heap[b]? = w.heap[b]?) (hy : y.at w') (hya : ∀ b, y.a = some b → w.heap.size ≤ b) : Hp w0 D (y :: L) w' := by
  have get : ∀ (j : Nat) (z : Ent), (y :: L)[j]? = some z → (j = 0 ∧ z = y) ∨ (∃ k, j = k + 1 ∧ L[k]? = some z) := by
    intro j z hz
    cases j with
    | zero => exact .inl ⟨rfl, by simpa using hz.symm⟩
    | succ k => exact .inr ⟨k, rfl, by simpa using hz⟩
  have old : ∀ (j : Nat) (z : Ent) (b : Nat), L[j]? = some z → z.a = some b → b < w.heap.size := by
    intro j z b hz hb
    obtain ⟨cur, hc, _⟩ := Ent.at_some (H.ents j z hz) hb
    exact lt_of_heap hc
  refine ⟨h1.trans H.os, h2.trans H.tape, h3.trans H.output, Nat.le_trans H.size hs, fun b hb hd => ?_, fun j z hz => ?_, fun j z b hz hb => ?_, fun j k z u b hz hu hzb hub => ?_⟩
  · rw [hfr b (Nat.lt_of_lt_of_le hb H.size)]; exact H.frame b hb hd
  · rcases get j z hz with ⟨_, rfl⟩ | ⟨k, _, hz⟩
    · exact hy
    · exact Ent.at_of_heap (H.ents k z hz) fun b hb => hfr b (old k z b hz hb)
  · rcases get j z hz with ⟨_, rfl⟩ | ⟨k, _, hz⟩
    · exact .inr (Nat.le_trans H.size (hya b hb))
    · exact H.mine k z b hz hb
  · rcases get j z hz with ⟨rfl, rfl⟩ | ⟨j', rfl, hz⟩ <;> rcases get k u hu with ⟨rfl, rfl⟩ | ⟨k', rfl, hu⟩
    · rfl
    · have := old _ _ _ hu hub; have := hya _ hzb; omega
    · have := old _ _ _ hz hzb; have := hya _ hub; omega
    · rw [H.apart _ _ _ _ _ hz hu hzb hub]

/-- a block of the list is written -/
theorem Hp.setRow (H : Hp w0 D L w) {i : Nat} {x : Ent} {b : Nat} (hi : L[i]? = some x) (hb : x.a = some b) (cur : Array Value) (xs : List Value) (hsz : cur.size = x.N) (hp : cur.toList.take xs.length = xs) :
    Hp w0 D (L.set i ⟨some b, xs, x.e, x.N⟩) (w.setRow b cur) := by
  obtain ⟨old, hold, _⟩ := Ent.at_some (H.ents i x hi) hb
  refine H.upd hi rfl rfl rfl (by simp [World.setRow]) (fun k _ hk => setRow_other w b k cur (fun e => hk (e ▸ hb))) ?_ (.inl hb.symm)
  exact ⟨cur, setRow_heap w b old cur x.e _ hold, hsz, hp⟩
theorem Hp.alloc (H : Hp w0 D L w) (cs : Array Value) (e : TypeId) (xs : List Value) (hp : cs.toList.take xs.length = xs) : Hp w0 D (⟨some w.heap.size, xs, e, cs.size⟩ :: L) (w.alloc (.cells cs e)) :=
  H.push rfl rfl rfl (by simp) (fun b hb => heap_alloc_old w _ hb) ⟨cs, heap_alloc_new w _, rfl, hp⟩ (fun b hb => by cases hb; exact Nat.le_refl _)
theorem Hp.realloc (H : Hp w0 D L w) {i : Nat} {x : Ent} (hi : L[i]? = some x) (cs : Array Value) (e : TypeId) (xs : List Value) (hp : cs.toList.take xs.length = xs) : Hp w0 D (L.set i ⟨some w.heap.size, xs, e, cs.size⟩) (w.alloc (.cells cs e)) :=
  H.upd hi rfl rfl rfl (by simp) (fun b hb _ => heap_alloc_old w _ hb) ⟨cs, heap_alloc_new w _, rfl, hp⟩ (.inr ⟨_, rfl, Nat.le_refl _⟩)

/-- what a block of the list holds -/
theorem Hp.cell (H : Hp w0 D L w) {i : Nat} {x : Ent} {b : Nat} (hi : L[i]? = some x) (hb : x.a = some b) {o : Nat} {v : Value} (hv : x.xs[o]? = some v) : w.cell? ⟨b, o, none⟩ = some v := by
  obtain ⟨cur, hc, _, hp⟩ := Ent.at_some (H.ents i x hi) hb
  have ho : o < x.xs.length := (List.getElem?_eq_some_iff.1 hv).1
  simp only [World.cell?, hc]
  rw [← hp, List.getElem?_take_of_lt ho] at hv
  simpa using hv
theorem Hp.lt (H : Hp w0 D L w) {i : Nat} {x : Ent} {b : Nat} (hi : L[i]? = some x) (hb : x.a = some b) : b < w.heap.size := by
  obtain ⟨cur, hc, _⟩ := Ent.at_some (H.ents i x hi) hb; exact lt_of_heap hc
theorem Hp.le (H : Hp w0 D L w) {i : Nat} {x : Ent} (hi : L[i]? = some x) : x.xs.length ≤ x.N := by
  have h := H.ents i x hi
  unfold Ent.at at h
  cases hx : x.a with
  | none => rw [hx] at h; rw [h.1, h.2]; exact Nat.le_refl _
  | some b => rw [hx] at h; obtain ⟨cur, _, h1, h2⟩ := h; rw [← h1, ← h2, List.length_take]; simp; omega
end

/-! ### What the tables say of a type -/
/-- is it a struct or an array; of how many cells -/
def tI (P : Program) (t : TypeId) : Option (Bool × Nat) :=
  match P.underlying t, P.info? t with
  | some d, some i => some ((match d with | .struct _ | .array .. => true | _ => false), i.size)
  | _, _ => none
theorem tI_isAgg {P : Program} {t : TypeId} {b : Bool} {n : Nat} (h : tI P t = some (b, n)) (w : World) : (isAgg t).run P w = .ok b w ∧ (sizeOf t).run P w = .ok n w := by
  unfold tI at h
  split at h
  · rename_i d i hd hi
    simp only [Option.some.injEq, Prod.mk.injEq] at h
    obtain ⟨rfl, rfl⟩ := h
    constructor
    · simp only [isAgg, Sem.run_bind, run_underlying hd, Result.andThen_ok]
      cases d <;> rfl
    · simp [sizeOf, typeInfo, hi]
  · cases h
/-- a slice's type: its elements' type, zero, size in cells, size in bytes -/
def sI (P : Program) (t : TypeId) : Option (TypeId × Value × Nat × Nat) :=
  match P.underlying t with
  | some (.slice e) => match P.info? e with
    | some i => match i.zero with
      | some z => if z.cells.size = i.size then some (e, z, i.size, i.bytes) else none
      | none => none
    | none => none
  | _ => none
theorem sI_spec {P : Program} {t e : TypeId} {z : Value} {n m : Nat} (h : sI P t = some (e, z, n, m)) : P.underlying t = some (.slice e) ∧ ∃ i, P.info? e = some i ∧ i.zero = some z ∧ i.size = n ∧ i.bytes = m ∧ z.cells.size = n := by
  unfold sI at h
  repeat' split at h
  all_goals first | (cases h; done) | skip
  simp only [Option.some.injEq, Prod.mk.injEq] at h
  obtain ⟨rfl, rfl, rfl, rfl⟩ := h
  exact ⟨‹_›, _, ‹_›, ‹_›, rfl, rfl, ‹_›⟩

section
variable {P : Program} {w0 w : World} {D : Nat → Prop} {L : List Ent} {ops : Array Oper} {Q : Exit → Act → World → Prop} {a : Act} {rest : List Oper}

theorem wl_run {o : Oper} {v : Value} {w' : World} (hw : Region.wanted o (yielded ops a.tmps) = true) (hr : (execOp a.eval o).run P w = .ok (.value v) w') (k : wpList P ops Q rest (a.put o.dst v) w') : wpList P ops Q (o :: rest) a w := by
  unfold wpList; rw [if_pos hw]; left; unfold Oper.wp; rw [hr]; exact k
theorem wl_skip {o : Oper} {w' : World} (hw : Region.wanted o (yielded ops a.tmps) = true) (hr : (execOp a.eval o).run P w = .ok .skip w') (k : wpList P ops Q rest (a.put o.dst undef) w') : wpList P ops Q (o :: rest) a w := by
  unfold wpList; rw [if_pos hw]; left; unfold Oper.wp; rw [hr]; exact k

/-- what a load of n cells (or of one) reads -/
def pick (agg : Bool) (n : Nat) (xs : List Value) (o : Nat) : Option Value :=
  if agg then (if o + n ≤ xs.length then some (.agg ((xs.drop o).take n).toArray) else none) else xs[o]?
theorem add_plain (b o j : Nat) : (⟨b, o, none⟩ : Addr).add j = ⟨b, o + j, none⟩ := by unfold Addr.add; split <;> simp_all
theorem Hp.load (H : Hp w0 D L w) {i b o n : Nat} {x : Ent} {agg : Bool} {t : TypeId} {v : Value} (hi : L[i]? = some x) (hb : x.a = some b) (ht : tI P t = some (agg, n)) (hv : pick agg n x.xs o = some v) :
    (loadVar t ⟨b, o, none⟩).run P w = .ok v w := by
  obtain ⟨h1, h2⟩ := tI_isAgg ht w
  unfold loadVar
  simp only [Sem.run_bind, h1, Result.andThen_ok]
  cases agg with
  | false =>
    have hc := H.cell hi hb (o := o) (v := v) (by simpa [pick] using hv)
    show (Go.load ⟨b, o, none⟩).run P w = _
    rw [run_load, hc]
  | true =>
    simp only [pick, if_true] at hv
    split at hv
    · rename_i hle
      cases hv
      have := run_loadCells_list (P := P) w ⟨b, o, none⟩ ((x.xs.drop o).take n) (fun j v hj => by
        rw [add_plain]
        refine H.cell hi hb ?_
        rw [List.getElem?_take] at hj
        split at hj
        · rw [List.getElem?_drop] at hj; exact hj
        · cases hj)
      have hl : ((x.xs.drop o).take n).length = n := by simp; omega
      rw [hl] at this
      simp [h2, this]
    · cases hv
theorem wl_load (i : Nat) {x : Ent} {b o n : Nat} {agg : Bool} {v : Value} {dst : Option Tmp} {t ty : TypeId} {ad : Operand} {pos : String} {af : Array Edge} {g : Option (Nat × Bool)}
    (hw : Region.wanted ⟨dst, .load t ad, ty, pos, af, g⟩ (yielded ops a.tmps) = true) (hx : a.eval ad = .pointer (some ⟨b, o, none⟩)) (H : Hp w0 D L w) (hi : L[i]? = some x) (hb : x.a = some b)
    (ht : tI P t = some (agg, n)) (hv : pick agg n x.xs o = some v) (k : wpList P ops Q rest (a.put dst v) w) : wpList P ops Q (⟨dst, .load t ad, ty, pos, af, g⟩ :: rest) a w :=
  wl_run hw (by simp only [execOp, hx, Instr.loadAt, Instr.sureAddr, Sem.run_bind, Sem.run_pure, Result.andThen_ok, H.load hi hb ht hv]) k

/-- a list with vs laid over it from o on -/
def lay (xs : List Value) (o : Nat) (vs : List Value) : List Value := xs.take o ++ vs ++ xs.drop (o + vs.length)
theorem length_lay {xs vs : List Value} {o : Nat} (h : o + vs.length ≤ xs.length) : (lay xs o vs).length = xs.length := by simp [lay]; omega
theorem take_lay (l vs : List Value) (o n : Nat) (h : o + vs.length ≤ n) (hn : n ≤ l.length) : (l.take o ++ vs ++ l.drop (o + vs.length)).take n = lay (l.take n) o vs := by
  unfold lay
  apply List.ext_getElem?
  intro k
  have h1 : min o l.length = o := by omega
  have h2 : min n l.length = n := by omega
  have h3 : min o n = o := by omega
  simp only [List.getElem?_take, List.getElem?_append, List.getElem?_drop, List.length_append, List.length_take, h1, h2, h3]
  repeat' split
  all_goals first | rfl | (exfalso; omega) | (congr 1; omega) | (symm; apply List.getElem?_eq_none; simp; omega) | (apply List.getElem?_eq_none; simp; omega)
def one (v : Value) : Bool := v.cells.toList.all (·.oneCell')
theorem Hp.store (H : Hp w0 D L w) {i b o : Nat} {x : Ent} {t : TypeId} {v : Value} {agg : Bool} (hi : L[i]? = some x) (hb : x.a = some b) (ht : tI P t = some (agg, v.cells.size)) (h1 : one v = true) (hle : o + v.cells.size ≤ x.xs.length) :
    ∃ w', (storeVar t ⟨b, o, none⟩ v).run P w = .ok () w' ∧ Hp w0 D (L.set i ⟨some b, lay x.xs o v.cells.toList, x.e, x.N⟩) w' := by
  obtain ⟨_, h2⟩ := tI_isAgg ht w
  obtain ⟨cur, hc, hsz, hp⟩ := Ent.at_some (H.ents i x hi) hb
  have hle' := H.le hi
  have hst := run_storeCells_at P b o x.e v.cells.toList 0 cur w hc (by simp; omega) (fun u hu => List.all_eq_true.1 h1 u hu)
  refine ⟨_, by
    unfold storeVar
    rw [Sem.run_bind, h2]
    rw [Result.andThen_ok, if_neg (by simp)]
    exact hst, ?_⟩
  refine H.setRow hi hb _ _ (by simp; omega) ?_
  have hl : (lay x.xs o v.cells.toList).length = x.xs.length := length_lay (by simpa using hle)
  rw [hl]
  have hxl : x.xs.length ≤ cur.toList.length := by simp; omega
  have := take_lay cur.toList v.cells.toList o x.xs.length (by simpa using hle) hxl
  rw [hp] at this
  simpa using this
theorem wl_store (i : Nat) {x : Ent} {b o : Nat} {agg : Bool} {v : Value} {n : Nat} {dst : Option Tmp} {t ty : TypeId} {ad va : Operand} {pos : String} {af : Array Edge} {g : Option (Nat × Bool)}
    (hw : Region.wanted ⟨dst, .store t ad va, ty, pos, af, g⟩ (yielded ops a.tmps) = true) (hx : a.eval ad = .pointer (some ⟨b, o, none⟩)) (hy : a.eval va = v) (H : Hp w0 D L w) (hi : L[i]? = some x) (hb : x.a = some b)
    (ht : tI P t = some (agg, n)) (hn : v.cells.size = n) (h1 : one v = true) (hle : o + n ≤ x.xs.length)
    (k : ∀ w', Hp w0 D (L.set i ⟨some b, lay x.xs o v.cells.toList, x.e, x.N⟩) w' → wpList P ops Q rest (a.put dst undef) w') : wpList P ops Q (⟨dst, .store t ad va, ty, pos, af, g⟩ :: rest) a w := by
  subst hn
  obtain ⟨w', hr, H'⟩ := H.store hi hb ht h1 hle
  exact wl_skip hw (by simp only [execOp, hx, hy, Instr.storeAt, Instr.sureAddr, Sem.run_bind, Sem.run_pure, Result.andThen_ok, hr]) (k w' H')

theorem wl_box {v : Value} {n : Nat} {dst : Option Tmp} {t ty : TypeId} {va : Operand} {pos : String} {af : Array Edge} {g : Option (Nat × Bool)}
    (hw : Region.wanted ⟨dst, .box t va, ty, pos, af, g⟩ (yielded ops a.tmps) = true) (hy : a.eval va = v) (hn : v.cells.size = n) (H : Hp w0 D L w)
    (k : ∀ b w', Hp w0 D (⟨some b, v.cells.toList, t, n⟩ :: L) w' → wpList P ops Q rest (a.put dst (.pointer (some ⟨b, 0, none⟩))) w') : wpList P ops Q (⟨dst, .box t va, ty, pos, af, g⟩ :: rest) a w := by
  subst hn
  refine wl_run (v := .pointer (some ⟨w.heap.size, 0, none⟩)) (w' := w.alloc (.cells v.cells t)) hw ?_ (k _ _ (H.alloc v.cells t v.cells.toList (List.take_of_length_le (Nat.le_refl _))))
  simp only [execOp, hy, Instr.box, newVar, newRow, newObj, Sem.run_bind, Sem.run_pure, Result.andThen_ok]
  rfl
/-- a type's zero value -/
def zI (P : Program) (t : TypeId) : Option Value := match P.info? t with | some i => i.zero | none => none
theorem wl_alloc {z : Value} {dst : Option Tmp} {t ty : TypeId} {pos : String} {af : Array Edge} {g : Option (Nat × Bool)}
    (hw : Region.wanted ⟨dst, .alloc t, ty, pos, af, g⟩ (yielded ops a.tmps) = true) (hz : zI P t = some z) (H : Hp w0 D L w)
    (k : ∀ b w', Hp w0 D (⟨some b, z.cells.toList, t, z.cells.size⟩ :: L) w' → wpList P ops Q rest (a.put dst (.pointer (some ⟨b, 0, none⟩))) w') : wpList P ops Q (⟨dst, .alloc t, ty, pos, af, g⟩ :: rest) a w := by
  unfold zI at hz
  split at hz
  · rename_i i hi
    refine wl_run (v := .pointer (some ⟨w.heap.size, 0, none⟩)) (w' := w.alloc (.cells z.cells t)) hw ?_ (k _ _ (H.alloc z.cells t z.cells.toList (List.take_of_length_le (Nat.le_refl _))))
    simp [execOp, Instr.alloc, zeroValue, typeInfo, hi, hz, newVar, newRow]
  · cases hz

/-- the address in a slice's head -/
def adr (a : Option Nat) (o : Nat) : Option Addr := a.map fun b => ⟨b, o, none⟩
@[simp] theorem adr_some (b o : Nat) : adr (some b) o = some ⟨b, o, none⟩ := rfl
@[simp] theorem adr_none (o : Nat) : adr none o = none := rfl

theorem set_self {α : Type} {l : List α} {i : Nat} {x : α} (h : l[i]? = some x) : l.set i x = l := by
  obtain ⟨hlt, rfl⟩ := List.getElem?_eq_some_iff.1 h
  exact List.set_getElem_self hlt
theorem foldl_set (l : List Value) : ∀ (k : Nat) (base : Array Value), k + l.length ≤ base.size →
    ((l.zipIdx k).foldl (fun cs (p : Value × Nat) => cs.setIfInBounds p.2 p.1) base).toList = base.toList.take k ++ l ++ base.toList.drop (k + l.length) := by
  induction l with
  | nil => intro k base _; simp
  | cons v l ih =>
    intro k base h
    simp only [List.length_cons] at h
    simp only [List.zipIdx_cons, List.foldl_cons]
    rw [ih (k + 1) (base.setIfInBounds k v) (by simp; omega)]
    rw [Array.toList_setIfInBounds]
    have := list_seg_step base.toList k v l (by simp; omega)
    simp only [List.length_cons]
    simpa [Nat.add_assoc, Nat.add_comm 1] using this
theorem foldl_set_all (l base : Array Value) (h : l.size = base.size) : l.zipIdx.foldl (fun cs (p : Value × Nat) => cs.setIfInBounds (0 + p.2) p.1) base = l := by
  rw [← Array.foldl_toList]
  apply Array.ext'
  have e : (fun (cs : Array Value) (p : Value × Nat) => cs.setIfInBounds (0 + p.2) p.1) = fun cs p => cs.setIfInBounds p.2 p.1 := by funext cs p; rw [Nat.zero_add]
  rw [e, Array.toList_zipIdx, foldl_set l.toList 0 base (by simp; omega)]
  simp
  omega

theorem wl_buildSlice0 {e : TypeId} {z : Value} {n m : Nat} {dst : Option Tmp} {t ty : TypeId} {pos : String} {af : Array Edge} {g : Option (Nat × Bool)}
    (hw : Region.wanted ⟨dst, .buildSlice t 0 #[], ty, pos, af, g⟩ (yielded ops a.tmps) = true) (ht : sI P t = some (e, z, n, m)) (H : Hp w0 D L w)
    (k : ∀ b w', Hp w0 D (⟨some b, [], e, 0⟩ :: L) w' → wpList P ops Q rest (a.put dst (.slice (some ⟨b, 0, none⟩) 0 0)) w') : wpList P ops Q (⟨dst, .buildSlice t 0 #[], ty, pos, af, g⟩ :: rest) a w := by
  obtain ⟨hu, i, hi, hz, rfl, rfl, hzs⟩ := sI_spec ht
  refine wl_run (v := .slice (some ⟨w.heap.size, 0, none⟩) 0 0) (w' := w.alloc (.cells #[] e)) hw ?_ (k _ _ (H.alloc #[] e [] rfl))
  simp [execOp, Instr.buildSlice, run_underlying hu, sizeOf, typeInfo, hi, Instr.fill, newRow]
  rw [show (Array.map (fun _ => (default : Value)) (Array.range 0)) = #[] from Array.eq_empty_of_size_eq_zero (by simp)]
theorem wl_buildSlice1 {e : TypeId} {z : Value} {n m : Nat} {v : Value} {dst : Option Tmp} {t ty : TypeId} {x : Operand} {pos : String} {af : Array Edge} {g : Option (Nat × Bool)}
    (hw : Region.wanted ⟨dst, .buildSlice t 1 #[(0, x)], ty, pos, af, g⟩ (yielded ops a.tmps) = true) (hx : a.eval x = v) (ht : sI P t = some (e, z, n, m)) (hn : v.cells.size = n) (hn0 : 0 < n) (hn1 : n ≤ 1000) (H : Hp w0 D L w)
    (k : ∀ b w', Hp w0 D (⟨some b, v.cells.toList, e, n⟩ :: L) w' → wpList P ops Q rest (a.put dst (.slice (some ⟨b, 0, none⟩) 1 1)) w') : wpList P ops Q (⟨dst, .buildSlice t 1 #[(0, x)], ty, pos, af, g⟩ :: rest) a w := by
  obtain ⟨hu, i, hi, hz, rfl, rfl, hzs⟩ := sI_spec ht
  have hH := H.alloc v.cells e v.cells.toList (List.take_of_length_le (Nat.le_refl _))
  rw [hn] at hH
  refine wl_run (v := .slice (some ⟨w.heap.size, 0, none⟩) 1 1) (w' := w.alloc (.cells v.cells e)) hw ?_ (k _ _ hH)
  have hbig : ¬ (2 ^ 24 < i.size) := by omega
  have hne : ¬ i.size = 0 := by omega
  have hfill : Instr.fill (fun j => some (j * i.size, i.size)) ((Array.range (1 * i.size)).map fun j => z.cells[j % z.cells.size]!) [(0, v)] = some v.cells := by
    simp only [Instr.fill, Nat.zero_mul, hn]
    rw [if_neg (by simp)]
    congr 1
    exact foldl_set_all v.cells _ (by simp [hn])
  simp only [Nat.one_mul] at hfill
  simp [execOp, Instr.buildSlice, run_underlying hu, sizeOf, typeInfo, zeroValue, hi, hz, hx, hbig, hne, hfill, newRow]

theorem Hp.cells (H : Hp w0 D L w) {i b o n : Nat} {x : Ent} (hi : L[i]? = some x) (hb : x.a = some b) : ∀ (j : Nat) (u : Value), ((x.xs.drop o).take n)[j]? = some u → w.cell? ((⟨b, o, none⟩ : Addr).add j) = some u := by
  intro j v hj
  rw [add_plain]
  refine H.cell hi hb ?_
  rw [List.getElem?_take] at hj
  split at hj
  · rw [List.getElem?_drop] at hj; exact hj
  · cases hj

/-- append: the row is entry i, what is appended stands in entry k. -/
theorem Hp.append (H : Hp w0 D L w) {i k : Nat} {x y : Ent} {e : TypeId} {z : Value} {sz bytes n cap m c o2 : Nat} {t ty : TypeId} (ht : sI P t = some (e, z, sz, bytes)) (hsz : 0 < sz)
    (hi : L[i]? = some x) (hxe : x.e = e ∨ x.a = none) (hxl : x.xs.length = n * sz) (hxN : x.N = cap * sz) (hk : L[k]? = some y) (hy0 : y.a = none → m = 0) (hyl : o2 + m * sz ≤ y.xs.length) (h1 : y.xs.all (·.oneCell') = true)
    (b1 : n + m ≤ maxLen) (b2 : (n + m) * bytes ≤ 140737488355328) :
    ∃ a' cap' w', (Builtin.append_ #[t, t] ty #[.slice (adr x.a 0) n cap, .slice (adr y.a o2) m c]).run P w = .ok (.slice (adr a' 0) (n + m) cap') w' ∧
      Hp w0 D (L.set i ⟨a', x.xs ++ (y.xs.drop o2).take (m * sz), e, cap' * sz⟩) w' ∧ (a' = none → n + m = 0) := by
  obtain ⟨hu, inf, hinf, hz, rfl, rfl, hzs⟩ := sI_spec ht
  have hsmall : n + m ≤ 9223372036854775807 := by simp only [maxLen] at b1; omega
  have hxle := H.le hi
  have hncap : n ≤ cap := by rw [hxl, hxN] at hxle; exact Nat.le_of_mul_le_mul_right hxle hsz
  have hnl : ((y.xs.drop o2).take (m * inf.size)).length = m * inf.size := by simp; omega
  have hone : ∀ u ∈ (y.xs.drop o2).take (m * inf.size), u.oneCell' = true := fun u hu => List.all_eq_true.1 h1 u (List.mem_of_mem_drop (List.mem_of_mem_take hu))
  have grow : ∀ (old : Nat), old < n + m → ∀ olds : List Value, olds = x.xs → Hp w0 D (L.set i ⟨some w.heap.size, x.xs ++ (y.xs.drop o2).take (m * inf.size), e, grownCap w (n + m) old e * inf.size⟩)
      (w.drew.alloc (.cells (olds.toArray ++ ((y.xs.drop o2).take (m * inf.size)).toArray ++ Builtin.zeroCells z.cells (grownCap w (n + m) old e - (n + m))) e)) := by
    intro old _ olds ho
    subst ho
    have hge := grownCap_ge w (n + m) old e
    have := H.drew.realloc hi (x.xs.toArray ++ ((y.xs.drop o2).take (m * inf.size)).toArray ++ Builtin.zeroCells z.cells (grownCap w (n + m) old e - (n + m))) e (x.xs ++ (y.xs.drop o2).take (m * inf.size)) (by
      simp only [Array.toList_append]
      rw [List.take_append_of_le_length (by simp)]
      exact List.take_of_length_le (by simp))
    have hs : (x.xs.toArray ++ ((y.xs.drop o2).take (m * inf.size)).toArray ++ Builtin.zeroCells z.cells (grownCap w (n + m) old e - (n + m))).size = grownCap w (n + m) old e * inf.size := by
      simp only [Array.size_append, List.size_toArray, size_zeroCells, hzs, hxl, hnl, ← Nat.add_mul]
      congr 1
      omega
    rw [hs] at this
    exact this
  rcases hy : y.a with _ | b2'
  · -- nothing to append
    have hm := hy0 hy
    subst hm
    refine ⟨x.a, cap, w, ?_, ?_, fun h => ?_⟩
    · rcases hxa : x.a with _ | b
      · simp [Builtin.append_, run_underlying hu, sizeOf, typeInfo, hinf, Builtin.lenOf, hncap, Builtin.firstCells]
      · simp [Builtin.append_, run_underlying hu, sizeOf, typeInfo, hinf, Builtin.lenOf, hncap, Builtin.firstCells, storeCells]
    · have e1 : (y.xs.drop o2).take (0 * inf.size) = [] := by simp
      rw [e1, List.append_nil, ← hxN]
      rcases hxe with hxe | hxe
      · have : L.set i ⟨x.a, x.xs, e, x.N⟩ = L := by
          subst hxe
          exact set_self hi
        rw [this]; exact H
      · refine H.upd hi rfl rfl rfl (Nat.le_refl _) (fun _ _ _ => rfl) ?_ (.inl rfl)
        have := H.ents i x hi
        unfold Ent.at at *
        rw [hxe] at *
        exact this
    · have := H.ents i x hi
      unfold Ent.at at this
      rw [h] at this
      simp only [this.1, List.length_nil] at hxl
      have : n = 0 := by rcases Nat.mul_eq_zero.1 hxl.symm with h | h <;> omega
      omega
  · have hnews := H.cells hk hy (o := o2) (n := m * inf.size)
    rcases hxa : x.a with _ | b
    · have hx0 := H.ents i x hi
      unfold Ent.at at hx0
      rw [hxa] at hx0
      have hn0 : n = 0 := by
        have h := hxl
        rw [hx0.1] at h
        rcases Nat.mul_eq_zero.1 h.symm with h | h <;> omega
      have hc0 : cap = 0 := by
        have h := hxN
        rw [hx0.2] at h
        rcases Nat.mul_eq_zero.1 h.symm with h | h <;> omega
      subst hn0; subst hc0
      by_cases hm : m = 0
      · subst hm
        refine ⟨none, 0, w, ?_, ?_, fun _ => rfl⟩
        · simp [Builtin.append_, run_underlying hu, sizeOf, typeInfo, hinf, Builtin.lenOf, Builtin.firstCells, loadCells, loadCellsFrom]
        · refine H.upd hi rfl rfl rfl (Nat.le_refl _) (fun _ _ _ => rfl) ?_ (.inl hxa.symm)
          simp [Ent.at, hx0.1]
      · have hr := run_append_nil (P := P) w t ty e inf z hu hinf hz ⟨b2', o2, none⟩ m c _ hnl hnews (by omega) (by omega) (by rw [Nat.zero_add] at b2; omega)
        have hg := grow 0 (by omega) [] hx0.1.symm
        refine ⟨some w.heap.size, grownCap w m 0 e, w.drew.alloc (.cells (((y.xs.drop o2).take (m * inf.size)).toArray ++ Builtin.zeroCells z.cells (grownCap w m 0 e - m)) e), ?_, ?_, fun h => by cases h⟩
        · rw [Nat.zero_add]; exact hr
        · rw [Nat.zero_add] at hg
          simpa using hg
    · have hxe' : x.e = e := by rcases hxe with h | h; exact h; rw [hxa] at h; cases h
      obtain ⟨cur, hc, hcs, hcp⟩ := Ent.at_some (H.ents i x hi) hxa
      by_cases hroom : n + m ≤ cap
      · have hfit : n * inf.size + ((y.xs.drop o2).take (m * inf.size)).length ≤ cur.size := by rw [hnl, hcs, hxN, ← Nat.add_mul]; exact Nat.mul_le_mul_right _ hroom
        rw [hxe'] at hc
        have hr := run_append_room (P := P) w t ty e inf hu hinf b n cap cur hc ⟨b2', o2, none⟩ m c _ hnl hnews hone hroom hfit
        refine ⟨some b, cap, _, hr, ?_, fun h => by cases h⟩
        have := H.setRow hi hxa (cur.toList.take (n * inf.size) ++ (y.xs.drop o2).take (m * inf.size) ++ cur.toList.drop (n * inf.size + ((y.xs.drop o2).take (m * inf.size)).length)).toArray (x.xs ++ (y.xs.drop o2).take (m * inf.size)) (by
            have hh : n * inf.size ≤ cur.size := by omega
            simp only [List.size_toArray, List.length_append, List.length_take, List.length_drop, Array.length_toList] at *
            omega) (by
            rw [← hxl, hcp]
            exact List.take_left' (by simp))
        rw [hxe', hxN] at this
        exact this
      · have hr := run_append_grow (P := P) w t ty e inf z hu hinf hz ⟨b, 0, none⟩ n cap x.xs hxl (fun j v hj => by rw [add_plain]; exact H.cell hi hxa (by simpa using hj)) ⟨b2', o2, none⟩ m c _ hnl hnews (by omega) (by omega) (growslice_fits (by omega) b2)
        exact ⟨some w.heap.size, _, _, hr, grow cap (by omega) x.xs rfl, fun h => by cases h⟩

theorem wl_append (i k : Nat) {x y : Ent} {e : TypeId} {z : Value} {sz bytes n cap m c o2 : Nat} {dst : Option Tmp} {s v : Operand} {t ty : TypeId} {pos : String} {af : Array Edge} {g : Option (Nat × Bool)}
    (hw : Region.wanted ⟨dst, .call { callee := .builtin .append, args := #[s, v], argTypes := #[t, t] }, ty, pos, af, g⟩ (yielded ops a.tmps) = true)
    (H : Hp w0 D L w) (hi : L[i]? = some x) (hk : L[k]? = some y) (hs : a.eval s = .slice (adr x.a 0) n cap) (hv : a.eval v = .slice (adr y.a o2) m c) (ht : sI P t = some (e, z, sz, bytes)) (hsz : 0 < sz)
    (hxe : x.e = e ∨ x.a = none) (hxl : x.xs.length = n * sz) (hxN : x.N = cap * sz) (hy0 : y.a = none → m = 0) (hyl : o2 + m * sz ≤ y.xs.length) (h1 : y.xs.all (·.oneCell') = true)
    (b1 : n + m ≤ maxLen) (b2 : (n + m) * bytes ≤ 140737488355328)
    (kk : ∀ a' cap' w', Hp w0 D (L.set i ⟨a', x.xs ++ (y.xs.drop o2).take (m * sz), e, cap' * sz⟩) w' → (a' = none → n + m = 0) → wpList P ops Q rest (a.put dst (.slice (adr a' 0) (n + m) cap')) w') :
    wpList P ops Q (⟨dst, .call { callee := .builtin .append, args := #[s, v], argTypes := #[t, t] }, ty, pos, af, g⟩ :: rest) a w := by
  obtain ⟨a', cap', w', hr, H', h0⟩ := H.append (ty := ty) (c := c) ht hsz hi hxe hxl hxN hk hy0 hyl h1 b1 b2
  refine wl_run hw ?_ (kk a' cap' w' H' h0)
  simp only [execOp, resolve, invoke, builtin, Sem.run_bind, Sem.run_pure, Result.andThen_ok, List.map_toArray, List.map_cons, List.map_nil, hs, hv, hr]

/-- copy into entry i out of entry k -/
theorem wl_copy (i k : Nat) {x y : Ent} {e : TypeId} {z : Value} {sz bytes o1 n1 c1 o2 n2 c2 b1 b2 : Nat} {dst : Option Tmp} {s v : Operand} {t ty : TypeId} {pos : String} {af : Array Edge} {g : Option (Nat × Bool)}
    (hw : Region.wanted ⟨dst, .call { callee := .builtin .copy, args := #[s, v], argTypes := #[t, t] }, ty, pos, af, g⟩ (yielded ops a.tmps) = true)
    (hs : a.eval s = .slice (some ⟨b1, o1, none⟩) n1 c1) (hv : a.eval v = .slice (some ⟨b2, o2, none⟩) n2 c2) (H : Hp w0 D L w) (hi : L[i]? = some x) (hib : x.a = some b1) (hk : L[k]? = some y) (hkb : y.a = some b2) (ht : sI P t = some (e, z, sz, bytes))
    (hyl : o2 + min n2 n1 * sz ≤ y.xs.length) (hxl : o1 + min n2 n1 * sz ≤ x.xs.length) (h1 : y.xs.all (·.oneCell') = true)
    (kk : ∀ w', Hp w0 D (L.set i ⟨some b1, lay x.xs o1 ((y.xs.drop o2).take (min n2 n1 * sz)), x.e, x.N⟩) w' → wpList P ops Q rest (a.put dst (.int .i64 (min n2 n1 : Nat))) w') :
    wpList P ops Q (⟨dst, .call { callee := .builtin .copy, args := #[s, v], argTypes := #[t, t] }, ty, pos, af, g⟩ :: rest) a w := by
  obtain ⟨hu, inf, hinf, hz, rfl, rfl, hzs⟩ := sI_spec ht
  have hnl : ((y.xs.drop o2).take (min n2 n1 * inf.size)).length = min n2 n1 * inf.size := by simp only [List.length_take, List.length_drop]; omega
  have hone : ∀ u ∈ (y.xs.drop o2).take (min n2 n1 * inf.size), u.oneCell' = true := fun u hu => List.all_eq_true.1 h1 u (List.mem_of_mem_drop (List.mem_of_mem_take hu))
  have hf := run_firstCells_some (P := P) w inf.size (min n2 n1) ⟨b2, o2, none⟩ n2 c2 _ hnl (H.cells hk hkb)
  obtain ⟨cur, hc, hcs, hcp⟩ := Ent.at_some (H.ents i x hi) hib
  have hle' := H.le hi
  have hst := run_storeCells_at P b1 o1 x.e _ 0 cur w hc (by rw [hnl]; omega) hone
  refine wl_run (w' := w.setRow b1 (cur.toList.take (o1 + 0) ++ ((y.xs.drop o2).take (min n2 n1 * inf.size)) ++ cur.toList.drop (o1 + 0 + ((y.xs.drop o2).take (min n2 n1 * inf.size)).length)).toArray) hw ?_ (kk _ ?_)
  · have hr : (Builtin.copy_ #[t, t] ty #[.slice (some ⟨b1, o1, none⟩) n1 c1, .slice (some ⟨b2, o2, none⟩) n2 c2]).run P w = .ok (.int .i64 (min n2 n1 : Nat)) (w.setRow b1 (cur.toList.take (o1 + 0) ++ ((y.xs.drop o2).take (min n2 n1 * inf.size)) ++ cur.toList.drop (o1 + 0 + ((y.xs.drop o2).take (min n2 n1 * inf.size)).length)).toArray) := by
      have hf' : (Builtin.firstCells inf.size (Nat.min n2 n1) (.slice (some ⟨b2, o2, none⟩) n2 c2)).run P w = _ := hf
      unfold Builtin.copy_
      simp only [List.getElem?_toArray, List.getElem?_cons_zero, List.getElem?_cons_succ, Sem.run_bind, run_underlying hu, Result.andThen_ok, Builtin.lenOf, Sem.run_pure, sizeOf, typeInfo]
      simp [hinf, hf', hst, goInt]
    simp only [execOp, resolve, invoke, builtin, Sem.run_bind, Sem.run_pure, Result.andThen_ok, List.map_toArray, List.map_cons, List.map_nil, hs, hv, hr]
  · refine H.setRow hi hib _ _ (by simp [hnl] at *; omega) ?_
    have hl : (lay x.xs o1 ((y.xs.drop o2).take (min n2 n1 * inf.size))).length = x.xs.length := length_lay (by rw [hnl]; exact hxl)
    rw [hl]
    have hxl2 : x.xs.length ≤ cur.toList.length := by simp; omega
    have := take_lay cur.toList ((y.xs.drop o2).take (min n2 n1 * inf.size)) o1 x.xs.length (by rw [hnl]; exact hxl) hxl2
    rw [hcp] at this
    simpa using this

/-! ### The same, by the kind of what is loaded or stored -/
theorem ld (i : Nat) {x : Ent} {b o n : Nat} {v : Value} {dst : Option Tmp} {t ty : TypeId} {ad : Operand} {pos : String} {af : Array Edge} {g : Option (Nat × Bool)} (H : Hp w0 D L w)
    (hx : a.eval ad = .pointer (some ⟨b, o, none⟩)) (hi : L[i]? = some x) (hb : x.a = some b)
    (ht : tI P t = some (false, n)) (hv : x.xs[o]? = some v) (hw : Region.wanted ⟨dst, .load t ad, ty, pos, af, g⟩ (yielded ops a.tmps) = true) (k : wpList P ops Q rest (a.put dst v) w) : wpList P ops Q (⟨dst, .load t ad, ty, pos, af, g⟩ :: rest) a w :=
  wl_load i hw hx H hi hb ht (by simpa [pick] using hv) k
theorem ldA (i : Nat) {x : Ent} {b o n : Nat} {vs : List Value} {dst : Option Tmp} {t ty : TypeId} {ad : Operand} {pos : String} {af : Array Edge} {g : Option (Nat × Bool)} (H : Hp w0 D L w)
    (hx : a.eval ad = .pointer (some ⟨b, o, none⟩)) (hi : L[i]? = some x) (hb : x.a = some b)
    (ht : tI P t = some (true, n)) (hle : o + n ≤ x.xs.length) (hv : (x.xs.drop o).take n = vs) (hw : Region.wanted ⟨dst, .load t ad, ty, pos, af, g⟩ (yielded ops a.tmps) = true)
    (k : wpList P ops Q rest (a.put dst (.agg vs.toArray)) w) : wpList P ops Q (⟨dst, .load t ad, ty, pos, af, g⟩ :: rest) a w :=
  wl_load i hw hx H hi hb ht (by simp [pick, hle, hv]) k
theorem lay_one (xs : List Value) (o : Nat) (v : Value) (h : o < xs.length) : lay xs o [v] = xs.set o v := by
  rw [List.set_eq_take_append_cons_drop, if_pos h]; simp [lay]
theorem st (i : Nat) {x : Ent} {b o : Nat} {v : Value} {n : Nat} {dst : Option Tmp} {t ty : TypeId} {ad va : Operand} {pos : String} {af : Array Edge} {g : Option (Nat × Bool)} (H : Hp w0 D L w)
    (hx : a.eval ad = .pointer (some ⟨b, o, none⟩)) (hi : L[i]? = some x) (hb : x.a = some b) (hy : a.eval va = v) (ho : v.oneCell' = true)
    (ht : tI P t = some (false, n)) (hn : n = 1) (hle : o < x.xs.length) (hw : Region.wanted ⟨dst, .store t ad va, ty, pos, af, g⟩ (yielded ops a.tmps) = true)
    (k : ∀ w', Hp w0 D (L.set i ⟨some b, x.xs.set o v, x.e, x.N⟩) w' → wpList P ops Q rest (a.put dst undef) w') : wpList P ops Q (⟨dst, .store t ad va, ty, pos, af, g⟩ :: rest) a w := by
  subst hn
  have hc : v.cells = #[v] := by cases v <;> first | rfl | simp [Value.oneCell'] at ho
  refine wl_store i hw hx hy H hi hb ht (by rw [hc]; rfl) (by simp [one, hc, ho]) (by omega) fun w' H' => k w' ?_
  rw [hc] at H'
  rw [← lay_one _ _ _ hle]; exact H'
theorem stI (i : Nat) {x : Ent} {b o : Nat} {kd : IntKind} {v : Int} {n : Nat} {dst : Option Tmp} {t ty : TypeId} {ad va : Operand} {pos : String} {af : Array Edge} {g : Option (Nat × Bool)} (H : Hp w0 D L w)
    (hx : a.eval ad = .pointer (some ⟨b, o, none⟩)) (hi : L[i]? = some x) (hb : x.a = some b) (hy : a.eval va = .int kd v)
    (ht : tI P t = some (false, n)) (hn : n = 1) (hle : o < x.xs.length) (hw : Region.wanted ⟨dst, .store t ad va, ty, pos, af, g⟩ (yielded ops a.tmps) = true)
    (k : ∀ w', Hp w0 D (L.set i ⟨some b, x.xs.set o (.int kd v), x.e, x.N⟩) w' → wpList P ops Q rest (a.put dst undef) w') : wpList P ops Q (⟨dst, .store t ad va, ty, pos, af, g⟩ :: rest) a w := st i H hx hi hb hy rfl ht hn hle hw k
theorem stB (i : Nat) {x : Ent} {b o : Nat} {v : Bool} {n : Nat} {dst : Option Tmp} {t ty : TypeId} {ad va : Operand} {pos : String} {af : Array Edge} {g : Option (Nat × Bool)} (H : Hp w0 D L w)
    (hx : a.eval ad = .pointer (some ⟨b, o, none⟩)) (hi : L[i]? = some x) (hb : x.a = some b) (hy : a.eval va = .bool v)
    (ht : tI P t = some (false, n)) (hn : n = 1) (hle : o < x.xs.length) (hw : Region.wanted ⟨dst, .store t ad va, ty, pos, af, g⟩ (yielded ops a.tmps) = true)
    (k : ∀ w', Hp w0 D (L.set i ⟨some b, x.xs.set o (.bool v), x.e, x.N⟩) w' → wpList P ops Q rest (a.put dst undef) w') : wpList P ops Q (⟨dst, .store t ad va, ty, pos, af, g⟩ :: rest) a w := st i H hx hi hb hy rfl ht hn hle hw k
theorem stS (i : Nat) {x : Ent} {b o : Nat} {v : ByteArray} {n : Nat} {dst : Option Tmp} {t ty : TypeId} {ad va : Operand} {pos : String} {af : Array Edge} {g : Option (Nat × Bool)} (H : Hp w0 D L w)
    (hx : a.eval ad = .pointer (some ⟨b, o, none⟩)) (hi : L[i]? = some x) (hb : x.a = some b) (hy : a.eval va = .string v)
    (ht : tI P t = some (false, n)) (hn : n = 1) (hle : o < x.xs.length) (hw : Region.wanted ⟨dst, .store t ad va, ty, pos, af, g⟩ (yielded ops a.tmps) = true)
    (k : ∀ w', Hp w0 D (L.set i ⟨some b, x.xs.set o (.string v), x.e, x.N⟩) w' → wpList P ops Q rest (a.put dst undef) w') : wpList P ops Q (⟨dst, .store t ad va, ty, pos, af, g⟩ :: rest) a w := st i H hx hi hb hy rfl ht hn hle hw k
theorem stP (i : Nat) {x : Ent} {b o : Nat} {v : Option Addr} {n : Nat} {dst : Option Tmp} {t ty : TypeId} {ad va : Operand} {pos : String} {af : Array Edge} {g : Option (Nat × Bool)} (H : Hp w0 D L w)
    (hx : a.eval ad = .pointer (some ⟨b, o, none⟩)) (hi : L[i]? = some x) (hb : x.a = some b) (hy : a.eval va = .pointer v)
    (ht : tI P t = some (false, n)) (hn : n = 1) (hle : o < x.xs.length) (hw : Region.wanted ⟨dst, .store t ad va, ty, pos, af, g⟩ (yielded ops a.tmps) = true)
    (k : ∀ w', Hp w0 D (L.set i ⟨some b, x.xs.set o (.pointer v), x.e, x.N⟩) w' → wpList P ops Q rest (a.put dst undef) w') : wpList P ops Q (⟨dst, .store t ad va, ty, pos, af, g⟩ :: rest) a w := st i H hx hi hb hy rfl ht hn hle hw k
theorem stL (i : Nat) {x : Ent} {b o : Nat} {v : Option Addr} {l c : Nat} {n : Nat} {dst : Option Tmp} {t ty : TypeId} {ad va : Operand} {pos : String} {af : Array Edge} {g : Option (Nat × Bool)} (H : Hp w0 D L w)
    (hx : a.eval ad = .pointer (some ⟨b, o, none⟩)) (hi : L[i]? = some x) (hb : x.a = some b) (hy : a.eval va = .slice v l c)
    (ht : tI P t = some (false, n)) (hn : n = 1) (hle : o < x.xs.length) (hw : Region.wanted ⟨dst, .store t ad va, ty, pos, af, g⟩ (yielded ops a.tmps) = true)
    (k : ∀ w', Hp w0 D (L.set i ⟨some b, x.xs.set o (.slice v l c), x.e, x.N⟩) w' → wpList P ops Q rest (a.put dst undef) w') : wpList P ops Q (⟨dst, .store t ad va, ty, pos, af, g⟩ :: rest) a w := st i H hx hi hb hy rfl ht hn hle hw k
theorem stA (i : Nat) {x : Ent} {b o : Nat} {vs : List Value} {n : Nat} {dst : Option Tmp} {t ty : TypeId} {ad va : Operand} {pos : String} {af : Array Edge} {g : Option (Nat × Bool)} (H : Hp w0 D L w)
    (hx : a.eval ad = .pointer (some ⟨b, o, none⟩)) (hi : L[i]? = some x) (hb : x.a = some b) (hy : a.eval va = .agg vs.toArray)
    (ht : tI P t = some (true, n)) (hn : vs.length = n) (h1 : vs.all (·.oneCell') = true) (hle : o + n ≤ x.xs.length) (hw : Region.wanted ⟨dst, .store t ad va, ty, pos, af, g⟩ (yielded ops a.tmps) = true)
    (k : ∀ w', Hp w0 D (L.set i ⟨some b, lay x.xs o vs, x.e, x.N⟩) w' → wpList P ops Q rest (a.put dst undef) w') : wpList P ops Q (⟨dst, .store t ad va, ty, pos, af, g⟩ :: rest) a w :=
  wl_store i hw hx hy H hi hb ht hn h1 hle k
theorem bxA {vs : List Value} {n : Nat} {dst : Option Tmp} {t ty : TypeId} {va : Operand} {pos : String} {af : Array Edge} {g : Option (Nat × Bool)} (H : Hp w0 D L w)
    (hy : a.eval va = .agg vs.toArray) (hn : vs.length = n) (hw : Region.wanted ⟨dst, .box t va, ty, pos, af, g⟩ (yielded ops a.tmps) = true)
    (k : ∀ b w', Hp w0 D (⟨some b, vs, t, n⟩ :: L) w' → wpList P ops Q rest (a.put dst (.pointer (some ⟨b, 0, none⟩))) w') : wpList P ops Q (⟨dst, .box t va, ty, pos, af, g⟩ :: rest) a w :=
  wl_box hw hy hn H k
theorem al {zs : List Value} {n : Nat} {dst : Option Tmp} {t ty : TypeId} {pos : String} {af : Array Edge} {g : Option (Nat × Bool)} (H : Hp w0 D L w)
    (hz : zI P t = some (.agg zs.toArray)) (hn : zs.length = n) (hw : Region.wanted ⟨dst, .alloc t, ty, pos, af, g⟩ (yielded ops a.tmps) = true)
    (k : ∀ b w', Hp w0 D (⟨some b, zs, t, n⟩ :: L) w' → wpList P ops Q rest (a.put dst (.pointer (some ⟨b, 0, none⟩))) w') : wpList P ops Q (⟨dst, .alloc t, ty, pos, af, g⟩ :: rest) a w := by
  subst hn; exact wl_alloc hw hz H k
theorem bs1 {e : TypeId} {z : Value} {n m : Nat} {vs : List Value} {dst : Option Tmp} {t ty : TypeId} {x : Operand} {pos : String} {af : Array Edge} {g : Option (Nat × Bool)} (H : Hp w0 D L w)
    (hx : a.eval x = .agg vs.toArray) (ht : sI P t = some (e, z, n, m)) (hn : vs.length = n) (hn0 : 0 < n) (hn1 : n ≤ 1000) (hw : Region.wanted ⟨dst, .buildSlice t 1 #[(0, x)], ty, pos, af, g⟩ (yielded ops a.tmps) = true)
    (k : ∀ b w', Hp w0 D (⟨some b, vs, e, n⟩ :: L) w' → wpList P ops Q rest (a.put dst (.slice (some ⟨b, 0, none⟩) 1 1)) w') : wpList P ops Q (⟨dst, .buildSlice t 1 #[(0, x)], ty, pos, af, g⟩ :: rest) a w :=
  wl_buildSlice1 hw hx ht hn hn0 hn1 H k

/-! ### Two structs compared -/
theorem run_eqAgg {t u ty : TypeId} {xs ys : List Value} {r : Bool} {dst : Option Tmp} {x y : Operand} {pos : String} {af : Array Edge} {g : Option (Nat × Bool)} (hm : P.eqGuardType P.depth t = false)
    (he : ∀ w, (Op.equalIn 10000 t (.agg xs.toArray) (.agg ys.toArray)).run P w = .ok r w) (hx : a.eval x = .agg xs.toArray) (hy : a.eval y = .agg ys.toArray) :
    (execOp a.eval ⟨dst, .binOp .eql t x y u, ty, pos, af, g⟩).run P w = .ok (.value (.bool r)) w := by
  simp only [execOp, hx, hy, Sem.run_bind, run_eqGuard_agg w .eql t x y _ _ hm, Result.andThen_ok, run_eql_struct, he w, Sem.run_pure]
theorem run_neAgg {t u ty : TypeId} {xs ys : List Value} {r : Bool} {dst : Option Tmp} {x y : Operand} {pos : String} {af : Array Edge} {g : Option (Nat × Bool)} (hm : P.eqGuardType P.depth t = false)
    (he : ∀ w, (Op.equalIn 10000 t (.agg xs.toArray) (.agg ys.toArray)).run P w = .ok r w) (hx : a.eval x = .agg xs.toArray) (hy : a.eval y = .agg ys.toArray) :
    (execOp a.eval ⟨dst, .binOp .neq t x y u, ty, pos, af, g⟩).run P w = .ok (.value (.bool (!r))) w := by
  simp only [execOp, hx, hy, Sem.run_bind, run_eqGuard_agg w .neq t x y _ _ hm, Result.andThen_ok, run_neq_struct, he w, Sem.run_pure]
theorem wl_eqAgg {t u ty : TypeId} {xs ys : List Value} {r : Bool} {dst : Option Tmp} {x y : Operand} {pos : String} {af : Array Edge} {g : Option (Nat × Bool)} (hm : P.eqGuardType P.depth t = false)
    (he : ∀ w, (Op.equalIn 10000 t (.agg xs.toArray) (.agg ys.toArray)).run P w = .ok r w) (hx : a.eval x = .agg xs.toArray) (hy : a.eval y = .agg ys.toArray)
    (hw : Region.wanted ⟨dst, .binOp .eql t x y u, ty, pos, af, g⟩ (yielded ops a.tmps) = true) (k : ∀ rb, r = rb → wpList P ops Q rest (a.put dst (.bool rb)) w) : wpList P ops Q (⟨dst, .binOp .eql t x y u, ty, pos, af, g⟩ :: rest) a w := wl_run hw (run_eqAgg hm he hx hy) (k r rfl)
theorem wl_neAgg {t u ty : TypeId} {xs ys : List Value} {r : Bool} {dst : Option Tmp} {x y : Operand} {pos : String} {af : Array Edge} {g : Option (Nat × Bool)} (hm : P.eqGuardType P.depth t = false)
    (he : ∀ w, (Op.equalIn 10000 t (.agg xs.toArray) (.agg ys.toArray)).run P w = .ok r w) (hx : a.eval x = .agg xs.toArray) (hy : a.eval y = .agg ys.toArray)
    (hw : Region.wanted ⟨dst, .binOp .neq t x y u, ty, pos, af, g⟩ (yielded ops a.tmps) = true) (k : ∀ rb, r = rb → wpList P ops Q rest (a.put dst (.bool (!rb))) w) : wpList P ops Q (⟨dst, .binOp .neq t x y u, ty, pos, af, g⟩ :: rest) a w := wl_run hw (run_neAgg hm he hx hy) (k r rfl)
theorem gEq {t u ty : TypeId} {op : BinOp} {dst : Option Tmp} {x y : Operand} {pos : String} {af : Array Edge} {g : Option (Nat × Bool)} (k : wpList P ops Q (⟨dst, .binOp op t x y u, ty, pos, af, g⟩ :: rest) a w) : wpList P ops Q (⟨dst, .binOp op t x y u, ty, pos, af, g⟩ :: rest) a w := k

/-! ### A result that lies in memory -/
theorem ret_c {fn : Func} {R : Ending → World → Prop} {p : Tmp} {ty : TypeId} {b o n : Nat} {x : Ent} {vs : List Value} (i : Nat) (H : Hp w0 D L w) (hres : fn.results = #[.cell p ty]) (hd : a.defers = [])
    (hp : a.tmps.getD p undef = .pointer (some ⟨b, o, none⟩)) (hi : L[i]? = some x) (hb : x.a = some b) (ht : tI P ty = some (true, n)) (hle : o + n ≤ x.xs.length) (hv : (x.xs.drop o).take n = vs) (hR : R (.returned (.agg vs.toArray)) w) : bodyPost P fn R .ret a w := by
  refine ⟨hd, .agg vs.toArray, ?_, hR⟩
  have := H.load (o := o) (v := .agg vs.toArray) hi hb ht (by simp [pick, hle, hv])
  have hp' : a.tmps[p]?.getD undef = .pointer (some ⟨b, o, none⟩) := by simpa using hp
  simp [results, hres, hp', asAddr, this]
theorem ret_ct {fn : Func} {R : Ending → World → Prop} {p q : Tmp} {ty : TypeId} {b o n : Nat} {x : Ent} {vs : List Value} {u : Value} (i : Nat) (H : Hp w0 D L w) (hres : fn.results = #[.cell p ty, .tmp q]) (hd : a.defers = [])
    (hp : a.tmps.getD p undef = .pointer (some ⟨b, o, none⟩)) (hq : a.tmps.getD q undef = u) (hi : L[i]? = some x) (hb : x.a = some b) (ht : tI P ty = some (true, n)) (hle : o + n ≤ x.xs.length) (hv : (x.xs.drop o).take n = vs) (hR : R (.returned (.tuple #[.agg vs.toArray, u])) w) : bodyPost P fn R .ret a w := by
  refine ⟨hd, .tuple #[.agg vs.toArray, u], ?_, hR⟩
  have := H.load (o := o) (v := .agg vs.toArray) hi hb ht (by simp [pick, hle, hv])
  have hp' : a.tmps[p]?.getD undef = .pointer (some ⟨b, o, none⟩) := by simpa using hp
  have hq' : a.tmps[q]?.getD undef = u := by simpa using hq
  simp [results, hres, hp', hq', asAddr, this]

/-! ### Guards: which operation stands next -/
theorem gLd {dst : Option Tmp} {t ty : TypeId} {ad : Operand} {pos : String} {af : Array Edge} {g : Option (Nat × Bool)} (k : wpList P ops Q (⟨dst, .load t ad, ty, pos, af, g⟩ :: rest) a w) : wpList P ops Q (⟨dst, .load t ad, ty, pos, af, g⟩ :: rest) a w := k
theorem gSt {dst : Option Tmp} {t ty : TypeId} {ad va : Operand} {pos : String} {af : Array Edge} {g : Option (Nat × Bool)} (k : wpList P ops Q (⟨dst, .store t ad va, ty, pos, af, g⟩ :: rest) a w) : wpList P ops Q (⟨dst, .store t ad va, ty, pos, af, g⟩ :: rest) a w := k
theorem gBx {dst : Option Tmp} {t ty : TypeId} {va : Operand} {pos : String} {af : Array Edge} {g : Option (Nat × Bool)} (k : wpList P ops Q (⟨dst, .box t va, ty, pos, af, g⟩ :: rest) a w) : wpList P ops Q (⟨dst, .box t va, ty, pos, af, g⟩ :: rest) a w := k
theorem gAl {dst : Option Tmp} {t ty : TypeId} {pos : String} {af : Array Edge} {g : Option (Nat × Bool)} (k : wpList P ops Q (⟨dst, .alloc t, ty, pos, af, g⟩ :: rest) a w) : wpList P ops Q (⟨dst, .alloc t, ty, pos, af, g⟩ :: rest) a w := k
theorem gBs {dst : Option Tmp} {t ty : TypeId} {n : Nat} {ps : Array (Nat × Operand)} {pos : String} {af : Array Edge} {g : Option (Nat × Bool)} (k : wpList P ops Q (⟨dst, .buildSlice t n ps, ty, pos, af, g⟩ :: rest) a w) : wpList P ops Q (⟨dst, .buildSlice t n ps, ty, pos, af, g⟩ :: rest) a w := k
theorem gAp {dst : Option Tmp} {xs : Array Operand} {ts : Array TypeId} {ty : TypeId} {pos : String} {af : Array Edge} {g : Option (Nat × Bool)} (k : wpList P ops Q (⟨dst, .call { callee := .builtin .append, args := xs, argTypes := ts }, ty, pos, af, g⟩ :: rest) a w) : wpList P ops Q (⟨dst, .call { callee := .builtin .append, args := xs, argTypes := ts }, ty, pos, af, g⟩ :: rest) a w := k
theorem gCp {dst : Option Tmp} {xs : Array Operand} {ts : Array TypeId} {ty : TypeId} {pos : String} {af : Array Edge} {g : Option (Nat × Bool)} (k : wpList P ops Q (⟨dst, .call { callee := .builtin .copy, args := xs, argTypes := ts }, ty, pos, af, g⟩ :: rest) a w) : wpList P ops Q (⟨dst, .call { callee := .builtin .copy, args := xs, argTypes := ts }, ty, pos, af, g⟩ :: rest) a w := k
theorem gRg {id : Nat} {l : List Oper} (k : (Code.region id l.toArray true).wp P Q a w) : (Code.region id l.toArray true).wp P Q a w := k
theorem gIf {c : Operand} {x y : Code} (k : (Code.cond c x y).wp P Q a w) : (Code.cond c x y).wp P Q a w := k

/-! ### In two steps: first the operation and its address, then the entry -/
theorem eLd {b o : Nat} {dst : Option Tmp} {t ty : TypeId} {ad : Operand} {pos : String} {af : Array Edge} {g : Option (Nat × Bool)} (H : Hp w0 D L w)
    (hw : Region.wanted ⟨dst, .load t ad, ty, pos, af, g⟩ (yielded ops a.tmps) = true) (hx : a.eval ad = .pointer (some ⟨b, o, none⟩))
    (k : ∃ (i : Nat) (x : Ent) (agg : Bool) (n : Nat) (v : Value), L[i]? = some x ∧ x.a = some b ∧ tI P t = some (agg, n) ∧ pick agg n x.xs o = some v ∧ wpList P ops Q rest (a.put dst v) w) : wpList P ops Q (⟨dst, .load t ad, ty, pos, af, g⟩ :: rest) a w := by
  obtain ⟨i, x, agg, n, v, hi, hb, ht, hv, k⟩ := k
  exact wl_load i hw hx H hi hb ht hv k
theorem kLd (i : Nat) {x : Ent} {n b o : Nat} {v : Value} {t : TypeId} {K : Value → Prop} (hi : L[i]? = some x) (hb : x.a = some b) (ht : tI P t = some (false, n)) (hv : x.xs[o]? = some v) (k : K v) :
    ∃ (i : Nat) (x : Ent) (agg : Bool) (n : Nat) (v : Value), L[i]? = some x ∧ x.a = some b ∧ tI P t = some (agg, n) ∧ pick agg n x.xs o = some v ∧ K v := ⟨i, x, false, n, v, hi, hb, ht, by simpa [pick] using hv, k⟩
theorem kLdA (i : Nat) {x : Ent} {n b o : Nat} {vs : List Value} {t : TypeId} {K : Value → Prop} (hi : L[i]? = some x) (hb : x.a = some b) (ht : tI P t = some (true, n)) (hle : o + n ≤ x.xs.length) (hv : (x.xs.drop o).take n = vs) (k : K (.agg vs.toArray)) :
    ∃ (i : Nat) (x : Ent) (agg : Bool) (n : Nat) (v : Value), L[i]? = some x ∧ x.a = some b ∧ tI P t = some (agg, n) ∧ pick agg n x.xs o = some v ∧ K v := ⟨i, x, true, n, _, hi, hb, ht, by simp [pick, hle, hv], k⟩

theorem eSt {b o : Nat} {dst : Option Tmp} {t ty : TypeId} {ad va : Operand} {pos : String} {af : Array Edge} {g : Option (Nat × Bool)} (H : Hp w0 D L w)
    (hw : Region.wanted ⟨dst, .store t ad va, ty, pos, af, g⟩ (yielded ops a.tmps) = true) (hx : a.eval ad = .pointer (some ⟨b, o, none⟩))
    (k : ∃ v, a.eval va = v ∧ ∃ (i : Nat) (x : Ent) (agg : Bool) (n : Nat) (xs' : List Value), L[i]? = some x ∧ x.a = some b ∧ tI P t = some (agg, n) ∧ v.cells.size = n ∧ one v = true ∧ o + n ≤ x.xs.length ∧ lay x.xs o v.cells.toList = xs' ∧
      ∀ w', Hp w0 D (L.set i ⟨some b, xs', x.e, x.N⟩) w' → wpList P ops Q rest (a.put dst undef) w') : wpList P ops Q (⟨dst, .store t ad va, ty, pos, af, g⟩ :: rest) a w := by
  obtain ⟨v, hy, i, x, agg, n, xs', hi, hb, ht, hn, h1, hle, hl, k⟩ := k
  subst hl
  exact wl_store i hw hx hy H hi hb ht hn h1 hle k
/-- a store of one cell -/
theorem kSt (i : Nat) {x : Ent} {b o : Nat} {v : Value} {t : TypeId} {K : Nat → Ent → List Value → Prop} (hi : L[i]? = some x) (hb : x.a = some b) (ht : tI P t = some (false, 1)) (ho : v.oneCell' = true) (hle : o < x.xs.length) (k : K i x (x.xs.set o v)) :
    ∃ (i : Nat) (x : Ent) (agg : Bool) (n : Nat) (xs' : List Value), L[i]? = some x ∧ x.a = some b ∧ tI P t = some (agg, n) ∧ v.cells.size = n ∧ one v = true ∧ o + n ≤ x.xs.length ∧ lay x.xs o v.cells.toList = xs' ∧ K i x xs' := by
  have hc : v.cells = #[v] := by cases v <;> first | rfl | simp [Value.oneCell'] at ho
  exact ⟨i, x, false, 1, _, hi, hb, ht, by rw [hc]; rfl, by simp [one, hc, ho], by omega, by rw [hc]; exact lay_one _ _ _ hle, k⟩
theorem kStA (i : Nat) {x : Ent} {b o n : Nat} {vs : List Value} {t : TypeId} {K : Nat → Ent → List Value → Prop} (hi : L[i]? = some x) (hb : x.a = some b) (ht : tI P t = some (true, n)) (hn : vs.length = n) (h1 : vs.all (·.oneCell') = true) (hle : o + n ≤ x.xs.length) (k : K i x (lay x.xs o vs)) :
    ∃ (i : Nat) (x : Ent) (agg : Bool) (n : Nat) (xs' : List Value), L[i]? = some x ∧ x.a = some b ∧ tI P t = some (agg, n) ∧ (Value.agg vs.toArray).cells.size = n ∧ one (Value.agg vs.toArray) = true ∧ o + n ≤ x.xs.length ∧ lay x.xs o (Value.agg vs.toArray).cells.toList = xs' ∧ K i x xs' :=
  ⟨i, x, true, n, _, hi, hb, ht, hn, h1, hle, rfl, k⟩

/-! ### The same for one operation by itself -/
variable {K : Act → World → Prop}
theorem wp_run {o : Oper} {v : Value} {w' : World} (hr : (execOp a.eval o).run P w = .ok (.value v) w') (k : K (a.put o.dst v) w') : o.wp P a w K Q := by unfold Oper.wp; rw [hr]; exact k
theorem wp_skp {o : Oper} {w' : World} (hr : (execOp a.eval o).run P w = .ok .skip w') (k : K (a.put o.dst undef) w') : o.wp P a w K Q := by unfold Oper.wp; rw [hr]; exact k
theorem oSt {b o : Nat} {dst : Option Tmp} {t ty : TypeId} {ad va : Operand} {pos : String} {af : Array Edge} {g : Option (Nat × Bool)} (H : Hp w0 D L w) (hx : a.eval ad = .pointer (some ⟨b, o, none⟩))
    (k : ∃ v, a.eval va = v ∧ ∃ (i : Nat) (x : Ent) (agg : Bool) (n : Nat) (xs' : List Value), L[i]? = some x ∧ x.a = some b ∧ tI P t = some (agg, n) ∧ v.cells.size = n ∧ one v = true ∧ o + n ≤ x.xs.length ∧ lay x.xs o v.cells.toList = xs' ∧
      ∀ w', Hp w0 D (L.set i ⟨some b, xs', x.e, x.N⟩) w' → K (a.put dst undef) w') : Oper.wp P ⟨dst, .store t ad va, ty, pos, af, g⟩ a w K Q := by
  obtain ⟨v, hy, i, x, agg, n, xs', hi, hb, ht, hn, h1, hle, hl, k⟩ := k
  subst hl; subst hn
  obtain ⟨w', hr, H'⟩ := H.store hi hb ht h1 hle
  exact wp_skp (by simp only [execOp, hx, hy, Instr.storeAt, Instr.sureAddr, Sem.run_bind, Sem.run_pure, Result.andThen_ok, hr]) (k w' H')
theorem oEq {t u ty : TypeId} {xs ys : List Value} {r : Bool} {dst : Option Tmp} {x y : Operand} {pos : String} {af : Array Edge} {g : Option (Nat × Bool)} (hm : P.eqGuardType P.depth t = false)
    (he : ∀ w, (Op.equalIn 10000 t (.agg xs.toArray) (.agg ys.toArray)).run P w = .ok r w) (hx : a.eval x = .agg xs.toArray) (hy : a.eval y = .agg ys.toArray)
    (k : ∀ rb, r = rb → K (a.put dst (.bool rb)) w) : Oper.wp P ⟨dst, .binOp .eql t x y u, ty, pos, af, g⟩ a w K Q := wp_run (run_eqAgg hm he hx hy) (k r rfl)
theorem oNe {t u ty : TypeId} {xs ys : List Value} {r : Bool} {dst : Option Tmp} {x y : Operand} {pos : String} {af : Array Edge} {g : Option (Nat × Bool)} (hm : P.eqGuardType P.depth t = false)
    (he : ∀ w, (Op.equalIn 10000 t (.agg xs.toArray) (.agg ys.toArray)).run P w = .ok r w) (hx : a.eval x = .agg xs.toArray) (hy : a.eval y = .agg ys.toArray)
    (k : ∀ rb, r = rb → K (a.put dst (.bool (!rb))) w) : Oper.wp P ⟨dst, .binOp .neq t x y u, ty, pos, af, g⟩ a w K Q := wp_run (run_neAgg hm he hx hy) (k r rfl)
theorem oAl {zs : List Value} {n : Nat} {dst : Option Tmp} {t ty : TypeId} {pos : String} {af : Array Edge} {g : Option (Nat × Bool)} (H : Hp w0 D L w)
    (hz : zI P t = some (.agg zs.toArray)) (hn : zs.length = n)
    (k : ∀ b w', Hp w0 D (⟨some b, zs, t, n⟩ :: L) w' → K (a.put dst (.pointer (some ⟨b, 0, none⟩))) w') : Oper.wp P ⟨dst, .alloc t, ty, pos, af, g⟩ a w K Q := by
  subst hn
  unfold zI at hz
  split at hz
  · rename_i i hi
    refine wp_run (v := .pointer (some ⟨w.heap.size, 0, none⟩)) (w' := w.alloc (.cells zs.toArray t)) ?_ (k _ _ (H.alloc zs.toArray t zs (List.take_of_length_le (Nat.le_refl _))))
    simp [execOp, Instr.alloc, zeroValue, typeInfo, hi, hz, newVar, newRow, Value.cells]
  · cases hz
theorem run_ld {x : Ent} {b o n : Nat} {v : Value} {dst : Option Tmp} {t ty : TypeId} {ad : Operand} {pos : String} {af : Array Edge} {g : Option (Nat × Bool)} (i : Nat) (H : Hp w0 D L w)
    (hx : a.eval ad = .pointer (some ⟨b, o, none⟩)) (hi : L[i]? = some x) (hb : x.a = some b) (ht : tI P t = some (false, n)) (hv : x.xs[o]? = some v) :
    (execOp a.eval ⟨dst, .load t ad, ty, pos, af, g⟩).run P w = .ok (.value v) w := by
  simp only [execOp, hx, Instr.loadAt, Instr.sureAddr, Sem.run_bind, Sem.run_pure, Result.andThen_ok, H.load (o := o) (v := v) hi hb ht (by simpa [pick] using hv)]
theorem run_ldA {x : Ent} {b o n : Nat} {vs : List Value} {dst : Option Tmp} {t ty : TypeId} {ad : Operand} {pos : String} {af : Array Edge} {g : Option (Nat × Bool)} (i : Nat) (H : Hp w0 D L w)
    (hx : a.eval ad = .pointer (some ⟨b, o, none⟩)) (hi : L[i]? = some x) (hb : x.a = some b) (ht : tI P t = some (true, n)) (hle : o + n ≤ x.xs.length) (hv : (x.xs.drop o).take n = vs) :
    (execOp a.eval ⟨dst, .load t ad, ty, pos, af, g⟩).run P w = .ok (.value (.agg vs.toArray)) w := by
  simp only [execOp, hx, Instr.loadAt, Instr.sureAddr, Sem.run_bind, Sem.run_pure, Result.andThen_ok, H.load (o := o) (v := .agg vs.toArray) hi hb ht (by simp [pick, hle, hv])]

/-! ### Comparisons: the walk parts at once -/
def cmpB : BinOp → Int → Int → Option Bool
  | .eql, x, y => some (x == y)
  | .neq, x, y => some (x != y)
  | .lss, x, y => some (decide (x < y))
  | .leq, x, y => some (decide (x ≤ y))
  | .gtr, x, y => some (decide (x > y))
  | .geq, x, y => some (decide (x ≥ y))
  | _, _, _ => none
theorem run_cmp {op : BinOp} {k : IntKind} {m n : Int} {r : Bool} {dst : Option Tmp} {t u ty : TypeId} {x y : Operand} {pos : String} {af : Array Edge} {g : Option (Nat × Bool)} (hx : a.eval x = .int k m) (hy : a.eval y = .int k n) (hr : cmpB op m n = some r) :
    (execOp a.eval ⟨dst, .binOp op t x y u, ty, pos, af, g⟩).run P w = .ok (.value (.bool r)) w := by
  cases op <;> simp only [cmpB] at hr <;> cases hr <;> simp [execOp, hx, hy, eqGuard, binOp, Op.intCmp]
theorem wl_cmp {op : BinOp} {k : IntKind} {m n : Int} {r : Bool} {dst : Option Tmp} {t u ty : TypeId} {x y : Operand} {pos : String} {af : Array Edge} {g : Option (Nat × Bool)} (hx : a.eval x = .int k m) (hy : a.eval y = .int k n) (hr : cmpB op m n = some r)
    (hw : Region.wanted ⟨dst, .binOp op t x y u, ty, pos, af, g⟩ (yielded ops a.tmps) = true) (kk : ∀ rb, r = rb → wpList P ops Q rest (a.put dst (.bool rb)) w) : wpList P ops Q (⟨dst, .binOp op t x y u, ty, pos, af, g⟩ :: rest) a w := wl_run hw (run_cmp hx hy hr) (kk r rfl)
theorem oCmp {op : BinOp} {k : IntKind} {m n : Int} {r : Bool} {dst : Option Tmp} {t u ty : TypeId} {x y : Operand} {pos : String} {af : Array Edge} {g : Option (Nat × Bool)} (hx : a.eval x = .int k m) (hy : a.eval y = .int k n) (hr : cmpB op m n = some r)
    (kk : ∀ rb, r = rb → K (a.put dst (.bool rb)) w) : Oper.wp P ⟨dst, .binOp op t x y u, ty, pos, af, g⟩ a w K Q := wp_run (run_cmp hx hy hr) (kk r rfl)
def scmpB : BinOp → ByteArray → ByteArray → Option Bool
  | .eql, x, y => some (x.toList == y.toList)
  | .neq, x, y => some (!(x.toList == y.toList))
  | _, _, _ => none
theorem run_scmp {op : BinOp} {m n : ByteArray} {r : Bool} {dst : Option Tmp} {t u ty : TypeId} {x y : Operand} {pos : String} {af : Array Edge} {g : Option (Nat × Bool)} (hx : a.eval x = .string m) (hy : a.eval y = .string n) (hr : scmpB op m n = some r) :
    (execOp a.eval ⟨dst, .binOp op t x y u, ty, pos, af, g⟩).run P w = .ok (.value (.bool r)) w := by
  cases op <;> simp only [scmpB] at hr <;> cases hr <;> simp [execOp, hx, hy, eqGuard, binOp, Op.stringOp]
theorem wl_scmp {op : BinOp} {m n : ByteArray} {r : Bool} {dst : Option Tmp} {t u ty : TypeId} {x y : Operand} {pos : String} {af : Array Edge} {g : Option (Nat × Bool)} (hx : a.eval x = .string m) (hy : a.eval y = .string n) (hr : scmpB op m n = some r)
    (hw : Region.wanted ⟨dst, .binOp op t x y u, ty, pos, af, g⟩ (yielded ops a.tmps) = true) (kk : ∀ rb, r = rb → wpList P ops Q rest (a.put dst (.bool rb)) w) : wpList P ops Q (⟨dst, .binOp op t x y u, ty, pos, af, g⟩ :: rest) a w := wl_run hw (run_scmp hx hy hr) (kk r rfl)
theorem oScmp {op : BinOp} {m n : ByteArray} {r : Bool} {dst : Option Tmp} {t u ty : TypeId} {x y : Operand} {pos : String} {af : Array Edge} {g : Option (Nat × Bool)} (hx : a.eval x = .string m) (hy : a.eval y = .string n) (hr : scmpB op m n = some r)
    (kk : ∀ rb, r = rb → K (a.put dst (.bool rb)) w) : Oper.wp P ⟨dst, .binOp op t x y u, ty, pos, af, g⟩ a w K Q := wp_run (run_scmp hx hy hr) (kk r rfl)
/-- a loaded bool: the walk parts at once -/
theorem kLdB (i : Nat) {x : Ent} {n b o : Nat} {r : Bool} {t : TypeId} {K : Value → Prop} (hi : L[i]? = some x) (hb : x.a = some b) (ht : tI P t = some (false, n)) (hv : x.xs[o]? = some (.bool r)) (k : ∀ rb, r = rb → K (.bool rb)) :
    ∃ (i : Nat) (x : Ent) (agg : Bool) (n : Nat) (v : Value), L[i]? = some x ∧ x.a = some b ∧ tI P t = some (agg, n) ∧ pick agg n x.xs o = some v ∧ K v := ⟨i, x, false, n, .bool r, hi, hb, ht, by simpa [pick] using hv, k r rfl⟩
end
end Go.Gx

/-
  A slice that came in, whose elements are plain cells: what is known of its memory; loads out of it. Generic: no program in sight.
-/
import Derived.Test.YtajconlnacbmjaaGxLaw
set_option linter.unusedVariables false
set_option linter.unusedSimpArgs false
namespace Go.Gx
open Go.ChangeShapes Go.WideShapes Go.ChangeAt Go.RowKit

theorem mapM_some {α β : Type} {f : α → Option β} : ∀ {l : List α} {cs : List β}, l.mapM f = some cs → cs.length = l.length ∧ ∀ i : Nat, l[i]?.bind f = cs[i]?
  | [], cs, h => by
    have : cs = [] := by simpa using h.symm
    subst this; exact ⟨rfl, fun i => by simp⟩
  | x :: l, cs, h => by
    rw [List.mapM_cons] at h
    cases hx : f x with
    | none => rw [hx] at h; cases h
    | some y =>
      rw [hx] at h
      cases hr : l.mapM f with
      | none => simp only [hr] at h; cases h
      | some ys =>
        have e : cs = y :: ys := by rw [hr] at h; simpa using h.symm
        subst e
        obtain ⟨h1, h2⟩ := mapM_some hr
        refine ⟨by simp [h1], fun i => ?_⟩
        cases i with
        | zero => simpa using hx
        | succ i => simpa using h2 i
theorem cells?_some {w : World} {base : Nat} {a : Addr} {n : Nat} {cs : List Value} (h : w.cells? base a n = some cs) : cs.length = n ∧ ∀ i, i < n → w.cell? (a.add i) = cs[i]? := by
  unfold World.cells? at h
  split at h
  · obtain ⟨h1, h2⟩ := mapM_some h
    refine ⟨by simpa using h1, fun i hi => ?_⟩
    have := h2 i
    rw [List.getElem?_range hi] at this
    exact this
  · cases h
theorem cell_lt {w : World} {a : Addr} {v : Value} (h : w.cell? a = some v) : a.block < w.heap.size := by
  unfold World.cell? at h
  by_cases hb : a.block < w.heap.size
  · exact hb
  · rw [Array.getElem?_eq_none (by omega)] at h
    simp at h

/-- the cells of a row that was there before the call -/
def OldRow (w : World) (x : Option Addr) (ls : List (List Value)) (sz : Nat) : Prop :=
  ls = [] ∨ ∃ b off, x = some ⟨b, off, none⟩ ∧ b < w.heap.size ∧ ∀ i vs, ls[i]? = some vs → ∀ j v, vs[j]? = some v → w.cell? ⟨b, off + i * sz + j, none⟩ = some v
def Old (w0 : World) (D : Nat → Prop) (b o : Nat) (vs : List Value) : Prop := ¬ D b ∧ b < w0.heap.size ∧ ∀ j v, vs[j]? = some v → w0.cell? ⟨b, o + j, none⟩ = some v
theorem OldRow.at {w : World} {x : Option Addr} {ls : List (List Value)} {sz : Nat} (h : OldRow w x ls sz) {i : Nat} {vs : List Value} (hi : ls[i]? = some vs) : ∃ b off, x = some ⟨b, off, none⟩ ∧ Old w (fun _ => False) b (off + i * sz) vs := by
  rcases h with rfl | ⟨b, off, rfl, hb, h⟩
  · simp at hi
  · exact ⟨b, off, rfl, fun h => h, hb, fun j v hj => h i vs hi j v hj⟩

section
variable {w0 w : World} {D : Nat → Prop} {L : List Ent} {P : Program}
theorem Hp.old (H : Hp w0 D L w) {b o : Nat} {vs : List Value} (hO : Old w0 D b o vs) : ∀ (j : Nat) (v : Value), vs[j]? = some v → w.cell? ⟨b, o + j, none⟩ = some v := fun j v hj => by
  rw [World.cell?_of_block (w := w0) (a := ⟨b, o + j, none⟩) (H.frame b hO.2.1 hO.1)]
  exact hO.2.2 j v hj
theorem Hp.loadO (H : Hp w0 D L w) {b o k n : Nat} {vs : List Value} {agg : Bool} {t : TypeId} {v : Value} (hO : Old w0 D b o vs) (ht : tI P t = some (agg, n)) (hv : pick agg n vs k = some v) :
    (loadVar t ⟨b, o + k, none⟩).run P w = .ok v w := by
  obtain ⟨h1, h2⟩ := tI_isAgg ht w
  unfold loadVar
  simp only [Sem.run_bind, h1, Result.andThen_ok]
  cases agg with
  | false =>
    have hc := H.old hO k v (by simpa [pick] using hv)
    show (Go.load ⟨b, o + k, none⟩).run P w = _
    rw [run_load, hc]
  | true =>
    simp only [pick, if_true] at hv
    split at hv
    · rename_i hle
      cases hv
      have := run_loadCells_list (P := P) w ⟨b, o + k, none⟩ ((vs.drop k).take n) (fun j v hj => by
        rw [add_plain]
        rw [List.getElem?_take] at hj
        split at hj
        · rw [List.getElem?_drop] at hj
          have := H.old hO (k + j) v hj
          rwa [← Nat.add_assoc] at this
        · cases hj)
      have hl : ((vs.drop k).take n).length = n := by simp; omega
      rw [hl] at this
      simp [h2, this]
    · cases hv
variable {ops : Array Oper} {Q : Exit → Act → World → Prop} {rest : List Oper} {a : Act}
theorem wl_loadO (k : Nat) {b o o' n : Nat} {vs : List Value} {agg : Bool} {v : Value} {dst : Option Tmp} {t ty : TypeId} {ad : Operand} {pos : String} {af : Array Edge} {g : Option (Nat × Bool)} (H : Hp w0 D L w) (hO : Old w0 D b o vs)
    (hw : Region.wanted ⟨dst, .load t ad, ty, pos, af, g⟩ (yielded ops a.tmps) = true) (hx : a.eval ad = .pointer (some ⟨b, o', none⟩)) (he : o' = o + k)
    (ht : tI P t = some (agg, n)) (hv : pick agg n vs k = some v) (kk : wpList P ops Q rest (a.put dst v) w) : wpList P ops Q (⟨dst, .load t ad, ty, pos, af, g⟩ :: rest) a w := by
  subst he
  exact wl_run hw (by simp only [execOp, hx, Instr.loadAt, Instr.sureAddr, Sem.run_bind, Sem.run_pure, Result.andThen_ok, H.loadO hO ht hv]) kk
end

section
variable {H : Type} {enc : TypeId × Value → H} {P : Program}
theorem fits_length : ∀ {sh : List Sh} {cs : List Value}, Fits sh cs → cs.length = sh.length
  | [], cs, h => by simp only [Fits] at h; subst h; rfl
  | .b :: r, cs, h => by obtain ⟨x, cs, rfl, h⟩ := h; simp [fits_length h]
  | .i k :: r, cs, h => by obtain ⟨x, cs, rfl, _, h⟩ := h; simp [fits_length h]
  | .s :: r, cs, h => by obtain ⟨x, cs, rfl, _, h⟩ := h; simp [fits_length h]
/-- a slice of plain elements that came in -/
theorem open_rows {W : World} {t e : TypeId} {n sz : Nat} {sh : List Sh} {r : Reach} {b0 : Nat} {v : Value} {d : DataW H} {p : List MemPlace} (ht : P.underlying t = some (.slice e)) (hs : shapes P n e = some sh) (hc : P.cellsOf e = sz) (hsz : 0 < sz)
    (hv : Value.okWide P W r b0 t v) (h : DataW.Trod enc P W 0 (fun _ => true) true t v d p) :
    ∃ (a : Option Addr) (len cap : Nat) (ls : List (List Value)), v = .slice a len cap ∧ ls.length = len ∧ (∀ vs ∈ ls, Fits sh vs) ∧ OldRow W a ls sz ∧ len ≤ cap ∧ cap ≤ maxLen ∧
      ((d = .nil ∧ len = 0) ∨ ∃ elems spare, d = .slice elems spare ∧ elems.length = len ∧ elems.length + spare.length = cap) := by
  obtain ⟨a, len, cap, rfl⟩ := okWide_slice ht hv
  obtain ⟨fuel, hf⟩ := h
  rcases Deep.open_slice ht hf with ⟨hcs, hx⟩ | ⟨a', len', cap', m, k, Dt, Pl, hcs, hb, hl, hm, hmm, hx, hall⟩
  · simp [Value.cells] at hcs
    obtain ⟨rfl, rfl, rfl⟩ := hcs
    exact ⟨none, 0, 0, [], rfl, rfl, by simp, .inl rfl, Nat.le_refl _, Nat.zero_le _, .inl ⟨congrArg Prod.fst hx, rfl⟩⟩
  · simp [Value.cells] at hcs
    obtain ⟨rfl, rfl, rfl⟩ := hcs
    simp only [if_true] at hmm
    subst hmm
    rw [hc] at hall
    obtain ⟨f, hfc⟩ := Deep.choose_lt (p := fun i cs' => W.cells? 0 (a'.add (i * sz)) sz = some cs' ∧ DataW.trod enc P W 0 (fun _ => true) true k e cs' = some (Dt i, Pl i)) hall
    refine ⟨some a', len, m, (List.range len).map f, rfl, by simp, ?_, ?_, hl, hm, .inr ⟨_, _, congrArg Prod.fst hx, by simp, by simp; omega⟩⟩
    · intro vs hvs
      simp only [List.mem_map, List.mem_range] at hvs
      obtain ⟨i, hi, rfl⟩ := hvs
      exact fits_of_trod n e sh hs _ _ _ (hfc i (by omega)).2
    · by_cases h0 : len = 0
      · left; subst h0; rfl
      · right
        obtain ⟨b, off, spot⟩ := a'
        have h1 := cells?_some (hfc 0 (by omega)).1
        have hc0 : (f 0)[0]? = some ((f 0)[0]'(by omega)) := List.getElem?_eq_getElem _
        have hcell := (h1.2 0 hsz).trans hc0
        have hspot : spot = none := by simpa [Addr.add] using World.cell?_spot hcell
        subst hspot
        have hlt := cell_lt hcell
        rw [add_plain, add_plain] at hlt
        refine ⟨b, off, rfl, hlt, fun i vs hi j v hj => ?_⟩
        rw [List.getElem?_map] at hi
        cases hr : (List.range len)[i]? with
        | none => rw [hr] at hi; cases hi
        | some i' =>
          rw [hr] at hi
          obtain ⟨hlt', e'⟩ := List.getElem?_eq_some_iff.1 hr
          simp only [List.length_range] at hlt'
          simp only [List.getElem_range] at e'
          subst e'
          simp only [Option.map_some, Option.some.injEq] at hi
          subst hi
          have h2 := cells?_some (hfc i (by omega)).1
          have hj' : j < sz := by have := (List.getElem?_eq_some_iff.1 hj).1; omega
          have := h2.2 j hj'
          rw [add_plain, add_plain] at this
          rw [this, hj]
theorem map_of_all {α β : Type} {f : α → β} : ∀ {ls : List β}, (∀ x ∈ ls, ∃ y, x = f y) → ∃ l : List α, ls = l.map f
  | [], _ => ⟨[], rfl⟩
  | x :: ls, h => by
    obtain ⟨y, rfl⟩ := h x (by simp)
    obtain ⟨l, rfl⟩ := map_of_all (ls := ls) (fun x hx => h x (by simp [hx]))
    exact ⟨y :: l, rfl⟩
end
end Go.Gx

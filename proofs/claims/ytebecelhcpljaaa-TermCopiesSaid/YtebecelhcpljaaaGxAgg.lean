/-
  A struct that came in by value and holds slices: its parts. Generic: no program in sight.
-/
import Derived.Test.YtebecelhcpljaaaGxOld
set_option linter.unusedVariables false
set_option linter.unusedSimpArgs false
namespace Go.Gx
open Go.ChangeShapes Go.WideShapes Go.ChangeAt Go.RowKit
theorem mapM_at {α β : Type} {g : α → Option β} : ∀ {l : List α} {xs : List β}, l.mapM g = some xs → ∀ (i : Nat) (a : α), l[i]? = some a → ∃ y, g a = some y ∧ xs[i]? = some y
  | [], xs, _, i, a, hi => by simp at hi
  | b :: l, xs, h, i, a, hi => by
    rw [List.mapM_cons] at h
    cases hb : g b with
    | none => rw [hb] at h; cases h
    | some y =>
      cases hl : l.mapM g with
      | none => rw [hb, hl] at h; cases h
      | some ys =>
        rw [hb, hl] at h
        have h' : some (y :: ys) = some xs := h
        cases h'
        cases i with
        | zero => simp at hi; subst hi; exact ⟨y, hb, rfl⟩
        | succ i => obtain ⟨z, hz, hzi⟩ := mapM_at hl i a (by simpa using hi); exact ⟨z, hz, by simpa using hzi⟩
theorem list4 {α : Type} {l : List α} (h : l.length = 4) : ∃ a b c d, l = [a, b, c, d] := by
  match l, h with
  | [a, b, c, d], _ => exact ⟨a, b, c, d, rfl⟩
section
variable {H : Type} {enc : TypeId × Value → H} {P : Program} {W : World} {base : Nat} {spare : Nat → Bool} {held : Bool}
theorem open_parts {fs : Array Field} {t : TypeId} {fuel : Nat} {cs : List Value} {x : DataW H × List MemPlace} (hu : P.underlying t = some (.struct fs)) (h : DataW.trod enc P W base spare held fuel t cs = some x) :
    ∃ (m : Nat) (xs : List (DataW H × List MemPlace)), cs.length = P.cellsOf t ∧ fs.toList.mapM (fun f => DataW.trod enc P W base spare held m f.type ((cs.drop f.offset).take (P.cellsOf f.type))) = some xs ∧ x.1 = .agg (xs.map (·.1)) := by
  cases fuel with
  | zero => cases h
  | succ m =>
    unfold DataW.trod at h
    rw [hu] at h
    simp only at h
    by_cases hc : cs.length = P.cellsOf t
    · rw [if_pos hc] at h
      cases hm : fs.toList.mapM (fun f => DataW.trod enc P W base spare held m f.type ((cs.drop f.offset).take (P.cellsOf f.type))) with
      | none => rw [hm] at h; cases h
      | some xs => rw [hm] at h; simp only [Option.map_some, Option.some.injEq] at h; subst h; exact ⟨m, xs, hc, hm, rfl⟩
    · rw [if_neg hc] at h; cases h
theorem open_rowsC {t e : TypeId} {n sz fuel : Nat} {sh : List Sh} {cs : List Value} {x : DataW H × List MemPlace} (ht : P.underlying t = some (.slice e)) (hs : shapes P n e = some sh) (hc : P.cellsOf e = sz) (hsz : 0 < sz)
    (hf : DataW.trod enc P W 0 (fun _ => true) true fuel t cs = some x) :
    ∃ (a : Option Addr) (len cap : Nat) (ls : List (List Value)), cs = [.slice a len cap] ∧ ls.length = len ∧ (∀ vs ∈ ls, Fits sh vs) ∧ OldRow W a ls sz ∧ len ≤ cap ∧ cap ≤ maxLen ∧
      ((x.1 = .nil ∧ len = 0) ∨ ∃ elems spare, x.1 = .slice elems spare ∧ elems.length = len ∧ elems.length + spare.length = cap) := by
  rcases Deep.open_slice ht hf with ⟨rfl, hx⟩ | ⟨a', len', cap', m, k, Dt, Pl, rfl, hb, hl, hm, hmm, hx, hall⟩
  · exact ⟨none, 0, 0, [], rfl, rfl, by simp, .inl rfl, Nat.le_refl _, Nat.zero_le _, .inl ⟨congrArg Prod.fst hx, rfl⟩⟩
  · simp only [if_true] at hmm
    subst hmm
    rw [hc] at hall
    obtain ⟨f, hfc⟩ := Deep.choose_lt (p := fun i cs' => W.cells? 0 (a'.add (i * sz)) sz = some cs' ∧ DataW.trod enc P W 0 (fun _ => true) true k e cs' = some (Dt i, Pl i)) hall
    refine ⟨some a', len', m, (List.range len').map f, rfl, by simp, ?_, ?_, hl, hm, .inr ⟨_, _, congrArg Prod.fst hx, by simp, by simp; omega⟩⟩
    · intro vs hvs
      simp only [List.mem_map, List.mem_range] at hvs
      obtain ⟨i, hi, rfl⟩ := hvs
      exact fits_of_trod n e sh hs _ _ _ (hfc i (by omega)).2
    · by_cases h0 : len' = 0
      · left; subst h0; rfl
      · right
        obtain ⟨b, off, spot⟩ := a'
        have h1 := cells?_some (hfc 0 (by omega)).1
        have hlen0 : 0 < (f 0).length := by rw [h1.1]; exact hsz
        have hc0 : (f 0)[0]? = some ((f 0)[0]'hlen0) := List.getElem?_eq_getElem _
        have hcell := (h1.2 0 hsz).trans hc0
        have hspot : spot = none := by simpa [Addr.add] using World.cell?_spot hcell
        subst hspot
        have hlt := cell_lt hcell
        rw [add_plain, add_plain] at hlt
        refine ⟨b, off, rfl, hlt, fun i vs hi j v hj => ?_⟩
        rw [List.getElem?_map] at hi
        cases hr : (List.range len')[i]? with
        | none => rw [hr] at hi; cases hi
        | some i' =>
          rw [hr] at hi
          obtain ⟨hlt', e'⟩ := List.getElem?_eq_some_iff.1 hr
          simp only [List.length_range] at hlt'
          simp only [List.getElem_range] at e'
          subst e'
          simp only [Option.map_some, Option.some.injEq] at hi
          subst hi
          have h2 := cells?_some (hfc i (by omega)).1
          have hj' : j < sz := by have := (List.getElem?_eq_some_iff.1 hj).1; omega
          have := h2.2 j hj'
          rw [add_plain, add_plain] at this
          rw [this, hj]
end
end Go.Gx

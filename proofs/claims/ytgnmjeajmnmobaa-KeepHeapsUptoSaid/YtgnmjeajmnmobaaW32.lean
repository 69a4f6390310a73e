/- What functions of layer 4 compute. -/
import Derived.Test.YtgnmjeajmnmobaaHp
import Derived.Test.YtgnmjeajmnmobaaW25
import Derived.Test.YtgnmjeajmnmobaaW27
import Derived.WalkKit
import Derived.Lib.Hide
import Derived.Deep.LoopGhost
import Derived.WalkSpells
set_option linter.unusedVariables false
set_option linter.unusedSimpArgs false
namespace Go.Proofs.Ytgnmjeajmnmobaa
open Go.RowKit Go.Gx Go.Gx.Kp
set_option maxRecDepth 100000
theorem ah49_iff (x y : HT) : ah49 x y = true ↔ (x.1 < y.1 ∨ (x.1 = y.1 ∧ x.2.2 < y.2.2)) := by
  unfold ah49
  simp only [Bool.or_eq_true, Bool.and_eq_true, decide_eq_true_eq, Bool.not_eq_true', decide_eq_false_iff_not]
  omega
theorem ah49_no (x y : HT) : ah49 x y = false ↔ ¬ (x.1 < y.1 ∨ (x.1 = y.1 ∧ x.2.2 < y.2.2)) := by
  rw [← ah49_iff]; simp
theorem le49_tr (a b c : HT) : ah49 b a = false → ah49 c b = false → ah49 c a = false := by
  rw [ah49_no, ah49_no, ah49_no]; omega
theorem le49_tot (a b : HT) : ah49 a b = true → ah49 b a = false := by
  rw [ah49_no, ah49_iff]; omega
theorem le49_rf (a : HT) : ah49 a a = false := by rw [ah49_no]; omega
/-- a heap of the things of v, which were pushed in order -/
def HI49 (l v : List HT) : Prop := HeapF (fun a b : HT => ah49 b a = false) l.length (fl ((0, 0, 0) : HT) l) ∧ l.Perm v ∧ v.Pairwise (fun x y => x.2.2 < y.2.2)
theorem HI49.nil : HI49 [] [] := ⟨fun j _ h => by simp at h, List.Perm.refl _, List.Pairwise.nil⟩
theorem HI49.push {l v : List HT} (h : HI49 l v) (x : HT) (hx : ∀ y ∈ v, y.2.2 < x.2.2) : HI49 (up ((0, 0, 0) : HT) ah49 (l ++ [x]) l.length) (v ++ [x]) := by
  obtain ⟨h1, h2, h3⟩ := h
  refine ⟨hpush_heap (le := (fun a b : HT => ah49 b a = false)) (fun a b => Iff.rfl) le49_tr le49_tot x h1, (hpush_perm l x).trans (h2.append_right [x]), ?_⟩
  rw [List.pairwise_append]
  exact ⟨h3, List.pairwise_singleton _ _, fun a ha b hb => by simp at hb; subst hb; exact hx a ha⟩
/-- the thing at q is ahead of all others -/
def Min49 (v : List HT) (q : Nat) (z : HT) : Prop := v[q]? = some z ∧ ∀ (j : Nat) (x : HT), v[j]? = some x → j ≠ q → ah49 z x = true
theorem HI49.root {l v : List HT} (h : HI49 l v) {q : Nat} {z : HT} (hq : Min49 v q z) : l[0]? = some z := by
  obtain ⟨h1, h2, h3⟩ := h
  have hv : z ∈ v := List.mem_of_getElem? hq.1
  have hl : z ∈ l := h2.symm.subset hv
  have hpos : 0 < l.length := List.length_pos_of_mem hl
  obtain ⟨r, hr⟩ : ∃ r, l[0]? = some r := ⟨_, List.getElem?_eq_getElem hpos⟩
  have hle : ah49 z r = false := by have := hroot (le := (fun a b : HT => ah49 b a = false)) le49_rf le49_tr h1 z hl; rwa [fl_get hr] at this
  have hrv : r ∈ v := h2.subset (List.mem_of_getElem? hr)
  obtain ⟨j, hj⟩ := List.getElem?_of_mem hrv
  by_cases e : j = q
  · subst e; rw [hq.1] at hj; cases hj; exact hr
  · rw [hq.2 j r hj e] at hle; cases hle
theorem HI49.pop {l v : List HT} (h : HI49 l v) {q : Nat} {z : HT} (hq : Min49 v q z) : HI49 (hrest ((0, 0, 0) : HT) ah49 l (0, 0, 0)) (v.eraseIdx q) := by
  have hr := h.root hq
  obtain ⟨h1, h2, h3⟩ := h
  have hpos : 0 < l.length := (List.getElem?_eq_some_iff.1 hr).1
  refine ⟨hrest_heap (le := (fun a b : HT => ah49 b a = false)) (fun a b => Iff.rfl) le49_tr le49_tot le49_rf _ hpos h1, ?_, h3.sublist (List.eraseIdx_sublist v q)⟩
  have e1 := (hrest_perm (d := ((0, 0, 0) : HT)) (ah := ah49) hpos (0, 0, 0)).trans h2
  rw [fl_get hr] at e1
  have hlt : q < v.length := (List.getElem?_eq_some_iff.1 hq.1).1
  have e2 : (z :: v.eraseIdx q).Perm v := by
    have hz : v[q] = z := by have := hq.1; rw [List.getElem?_eq_getElem hlt] at this; exact Option.some.inj this
    have e3 : v.take q ++ z :: v.drop (q + 1) = v := by rw [← hz, ← List.drop_eq_getElem_cons hlt, List.take_append_drop]
    rw [List.eraseIdx_eq_take_drop_succ]
    have e4 : (z :: (v.take q ++ v.drop (q + 1))).Perm (v.take q ++ z :: v.drop (q + 1)) := List.perm_middle.symm
    rwa [e3] at e4
  exact (List.perm_cons z).1 (e1.trans e2.symm)
/-- a thing that is held, as it was pushed -/
def thg (x : HT) : TT := (x.1, x.2.1)
theorem bst_some (l : List TT) : ∀ (i : Nat), i ≤ l.length → (bst l i = none ↔ i = 0)
  | 0, _ => by simp [bst]
  | i + 1, h => by
    unfold bst
    cases hb : bst l i with
    | none => simp
    | some q => dsimp only; split <;> simp
/-- the first of the least -/
theorem bst_min (v : List HT) : ∀ (i q : Nat), i ≤ v.length → bst (v.map thg) i = some q → ∃ z, v[q]? = some z ∧ q < i ∧ (∀ j x, j < q → v[j]? = some x → z.1 < x.1) ∧ (∀ j x, q < j → j < i → v[j]? = some x → z.1 ≤ x.1)
  | 0, q, _, h => by simp [bst] at h
  | i + 1, q, hi, h => by
    have hlt : i < v.length := by omega
    obtain ⟨y, hy⟩ : ∃ y, v[i]? = some y := ⟨_, List.getElem?_eq_getElem hlt⟩
    unfold bst at h
    cases hb : bst (v.map thg) i with
    | none =>
      rw [hb] at h
      simp at h
      subst h
      have h0 : i = 0 := (bst_some (v.map thg) i (by simp; omega)).1 hb
      subst h0
      exact ⟨y, hy, by omega, fun j x hj => by omega, fun j x h1 h2 => by omega⟩
    | some q' =>
      rw [hb] at h
      obtain ⟨z, hz, hq', g1, g2⟩ := bst_min v i q' (by omega) hb
      have e1 : ((v.map thg)[i]?.getD (0, 0)).1 = y.1 := by simp [hy, thg]
      have e2 : ((v.map thg)[q']?.getD (0, 0)).1 = z.1 := by simp [hz, thg]
      dsimp only at h
      rw [e1, e2] at h
      split at h
      · rename_i hc
        cases h
        refine ⟨y, hy, by omega, fun j x hj hx => ?_, fun j x h1 h2 => by omega⟩
        by_cases hjq : j < q'
        · have := g1 j x hjq hx; omega
        · by_cases e : j = q'
          · subst e; rw [hz] at hx; cases hx; exact hc
          · have := g2 j x (by omega) hj hx; omega
      · rename_i hc
        cases h
        refine ⟨z, hz, by omega, g1, fun j x h1 h2 hx => ?_⟩
        by_cases e : j = i
        · subst e; rw [hy] at hx; cases hx; omega
        · exact g2 j x h1 (by omega) hx
theorem pw_get {v : List HT} (h : v.Pairwise (fun x y => x.2.2 < y.2.2)) {i j : Nat} {x y : HT} (hi : v[i]? = some x) (hj : v[j]? = some y) (hij : i < j) : x.2.2 < y.2.2 := by
  obtain ⟨h1, e1⟩ := List.getElem?_eq_some_iff.1 hi
  obtain ⟨h2, e2⟩ := List.getElem?_eq_some_iff.1 hj
  rw [← e1, ← e2]
  exact List.pairwise_iff_getElem.1 h i j h1 h2 hij
theorem Min49_of {l v : List HT} {q : Nat} (h : HI49 l v) (hb : bst (v.map thg) v.length = some q) : ∃ z, Min49 v q z := by
  obtain ⟨z, hz, hq, g1, g2⟩ := bst_min v v.length q (Nat.le_refl _) hb
  refine ⟨z, hz, fun j x hx hj => (ah49_iff _ _).2 ?_⟩
  have hjl := (List.getElem?_eq_some_iff.1 hx).1
  by_cases hjq : j < q
  · exact .inl (g1 j x hjq hx)
  · have hjq' : q < j := by omega
    have h1 := g2 j x hjq' hjl hx
    have h2 := pw_get h.2.2 hz hx hjq'
    omega
end Go.Proofs.Ytgnmjeajmnmobaa

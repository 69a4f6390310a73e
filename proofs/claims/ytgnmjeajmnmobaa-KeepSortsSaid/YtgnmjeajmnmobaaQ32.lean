/- What functions of layer 4 compute. -/
import Derived.Test.YtgnmjeajmnmobaaHp
import Derived.Test.YtgnmjeajmnmobaaQ25
import Derived.WalkKit
import Derived.Lib.Hide
import Derived.Deep.LoopGhost
import Derived.WalkSpells
set_option linter.unusedVariables false
set_option linter.unusedSimpArgs false
namespace Go.Proofs.Ytgnmjeajmnmobaa
open Go.RowKit Go.Gx Go.Gx.Kp
set_option maxRecDepth 100000
theorem ah41_iff (x y : HT) : ah41 x y = true ↔ (y.1 < x.1 ∨ (x.1 = y.1 ∧ x.2.2 < y.2.2)) := by
  unfold ah41
  simp only [Bool.or_eq_true, Bool.and_eq_true, decide_eq_true_eq, Bool.not_eq_true', decide_eq_false_iff_not]
  omega
theorem ah41_no (x y : HT) : ah41 x y = false ↔ ¬ (y.1 < x.1 ∨ (x.1 = y.1 ∧ x.2.2 < y.2.2)) := by
  rw [← ah41_iff]; simp
theorem le41_tr (a b c : HT) : ah41 b a = false → ah41 c b = false → ah41 c a = false := by
  rw [ah41_no, ah41_no, ah41_no]; omega
theorem le41_tot (a b : HT) : ah41 a b = true → ah41 b a = false := by
  rw [ah41_no, ah41_iff]; omega
theorem le41_rf (a : HT) : ah41 a a = false := by rw [ah41_no]; omega
/-- a heap of the things of v, which were pushed in order -/
def HI41 (l v : List HT) : Prop := HeapF (fun a b : HT => ah41 b a = false) l.length (fl ((0, 0, 0) : HT) l) ∧ l.Perm v ∧ v.Pairwise (fun x y => x.2.2 < y.2.2)
theorem HI41.nil : HI41 [] [] := ⟨fun j _ h => by simp at h, List.Perm.refl _, List.Pairwise.nil⟩
theorem HI41.push {l v : List HT} (h : HI41 l v) (x : HT) (hx : ∀ y ∈ v, y.2.2 < x.2.2) : HI41 (up ((0, 0, 0) : HT) ah41 (l ++ [x]) l.length) (v ++ [x]) := by
  obtain ⟨h1, h2, h3⟩ := h
  refine ⟨hpush_heap (le := (fun a b : HT => ah41 b a = false)) (fun a b => Iff.rfl) le41_tr le41_tot x h1, (hpush_perm l x).trans (h2.append_right [x]), ?_⟩
  rw [List.pairwise_append]
  exact ⟨h3, List.pairwise_singleton _ _, fun a ha b hb => by simp at hb; subst hb; exact hx a ha⟩
/-- the thing at q is ahead of all others -/
def Min41 (v : List HT) (q : Nat) (z : HT) : Prop := v[q]? = some z ∧ ∀ (j : Nat) (x : HT), v[j]? = some x → j ≠ q → ah41 z x = true
theorem HI41.root {l v : List HT} (h : HI41 l v) {q : Nat} {z : HT} (hq : Min41 v q z) : l[0]? = some z := by
  obtain ⟨h1, h2, h3⟩ := h
  have hv : z ∈ v := List.mem_of_getElem? hq.1
  have hl : z ∈ l := h2.symm.subset hv
  have hpos : 0 < l.length := List.length_pos_of_mem hl
  obtain ⟨r, hr⟩ : ∃ r, l[0]? = some r := ⟨_, List.getElem?_eq_getElem hpos⟩
  have hle : ah41 z r = false := by have := hroot (le := (fun a b : HT => ah41 b a = false)) le41_rf le41_tr h1 z hl; rwa [fl_get hr] at this
  have hrv : r ∈ v := h2.subset (List.mem_of_getElem? hr)
  obtain ⟨j, hj⟩ := List.getElem?_of_mem hrv
  by_cases e : j = q
  · subst e; rw [hq.1] at hj; cases hj; exact hr
  · rw [hq.2 j r hj e] at hle; cases hle
theorem HI41.pop {l v : List HT} (h : HI41 l v) {q : Nat} {z : HT} (hq : Min41 v q z) : HI41 (hrest ((0, 0, 0) : HT) ah41 l (0, 0, 0)) (v.eraseIdx q) := by
  have hr := h.root hq
  obtain ⟨h1, h2, h3⟩ := h
  have hpos : 0 < l.length := (List.getElem?_eq_some_iff.1 hr).1
  refine ⟨hrest_heap (le := (fun a b : HT => ah41 b a = false)) (fun a b => Iff.rfl) le41_tr le41_tot le41_rf _ hpos h1, ?_, h3.sublist (List.eraseIdx_sublist v q)⟩
  have e1 := (hrest_perm (d := ((0, 0, 0) : HT)) (ah := ah41) hpos (0, 0, 0)).trans h2
  rw [fl_get hr] at e1
  have hlt : q < v.length := (List.getElem?_eq_some_iff.1 hq.1).1
  have e2 : (z :: v.eraseIdx q).Perm v := by
    have hz : v[q] = z := by have := hq.1; rw [List.getElem?_eq_getElem hlt] at this; exact Option.some.inj this
    have e3 : v.take q ++ z :: v.drop (q + 1) = v := by rw [← hz, ← List.drop_eq_getElem_cons hlt, List.take_append_drop]
    rw [List.eraseIdx_eq_take_drop_succ]
    have e4 : (z :: (v.take q ++ v.drop (q + 1))).Perm (v.take q ++ z :: v.drop (q + 1)) := List.perm_middle.symm
    rwa [e3] at e4
  exact (List.perm_cons z).1 (e1.trans e2.symm)
theorem pw_get {v : List HT} (h : v.Pairwise (fun x y => x.2.2 < y.2.2)) {i j : Nat} {x y : HT} (hi : v[i]? = some x) (hj : v[j]? = some y) (hij : i < j) : x.2.2 < y.2.2 := by
  obtain ⟨h1, e1⟩ := List.getElem?_eq_some_iff.1 hi
  obtain ⟨h2, e2⟩ := List.getElem?_eq_some_iff.1 hj
  rw [← e1, ← e2]
  exact List.pairwise_iff_getElem.1 h i j h1 h2 hij
end Go.Proofs.Ytgnmjeajmnmobaa

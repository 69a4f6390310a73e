/-
  What the document's lists of entries answer, against the plain trees. Plain Lean: no program in sight.
-/
import Derived.Test.YtgnmjeajmnmobaaTree
set_option linter.unusedVariables false
set_option linter.unusedSimpArgs false
set_option linter.unusedSectionVars false
namespace Go.Gx.Kp
open KeyOrd
variable {κ ν : Type} [KeyOrd κ]
/-- the keys are two -/
def other (a b : κ) : Bool := lt a b || lt b a
theorem other_iff {a b : κ} : other a b = true ↔ a ≠ b := by
  unfold other
  constructor
  · intro h e; subst e; rw [irr] at h; cases h
  · intro h
    cases h1 : lt a b with
    | true => rfl
    | false => cases h2 : lt b a with
      | true => rfl
      | false => exact absurd (tri _ _ h1 h2) h
/-- the document's Put: a loop over the entries, with a flag -/
def putL : Bool → List (κ × ν) → κ → ν → List (κ × ν)
  | done, [], k, v => if done then [] else [(k, v)]
  | done, x :: l, k, v => (if done = false ∧ lt x.1 k = false then [(k, v)] else []) ++ (if other x.1 k then [x] else []) ++ putL (done || !lt x.1 k) l k v
theorem putL_done {k : κ} {v : ν} : ∀ {l : List (κ × ν)}, (∀ x ∈ l, lt k x.1 = true) → putL true l k v = l
  | [], _ => rfl
  | x :: l, h => by
    have h1 := h x (by simp)
    have h2 : other x.1 k = true := by unfold other; rw [h1]; simp
    have ih := putL_done (l := l) (k := k) (v := v) (fun y hy => h y (by simp [hy]))
    simp [putL, h2, ih]
theorem putL_ins {k : κ} {v : ν} : ∀ {l : List (κ × ν)}, Srt l → putL false l k v = ins l k v
  | [], _ => rfl
  | x :: l, h => by
    unfold Srt at h
    rw [List.pairwise_cons] at h
    unfold ins
    by_cases c1 : lt k x.1 = true
    · have h2 : other x.1 k = true := by unfold other; rw [c1]; simp
      rw [if_pos c1]
      simp only [putL, lt_asymm c1, h2]
      rw [show (false || !false) = true from rfl, putL_done (fun y hy => tr _ _ _ c1 (h.1 y hy))]
      simp
    · rw [if_neg c1]
      by_cases c2 : lt x.1 k = true
      · have h2 : other x.1 k = true := by unfold other; rw [c2]; simp
        rw [if_pos c2]
        simp only [putL, c2, h2]
        rw [show (false || !true) = false from rfl, putL_ins h.2]
        simp
      · rw [if_neg c2]
        have e := tri k x.1 (by simpa using c1) (by simpa using c2)
        have h2 : other x.1 k = false := by unfold other; simp at c1 c2; rw [c1, c2]; rfl
        simp only [putL, h2, show lt x.1 k = false by simpa using c2]
        rw [show (false || !false) = true from rfl, putL_done (fun y hy => by rw [e]; exact h.1 y hy)]
        simp
/-- the document's Drop -/
theorem del_filter (l : List (κ × ν)) (k : κ) : del l k = l.filter fun x => other x.1 k := rfl
/-- Rank: how far the loop goes -/
theorem rank_cons (x : κ × ν) (l : List (κ × ν)) (k : κ) : rank (x :: l) k = if lt x.1 k then rank l k + 1 else 0 := by
  unfold rank
  rw [List.takeWhile_cons]
  split <;> simp
theorem rank_drop {k : κ} : ∀ (l : List (κ × ν)) (n : Nat), n ≤ rank l k → (∀ x, l[n]? = some x → (lt x.1 k = true ↔ n < rank l k)) ∧ (l[n]? = none → n = rank l k)
  | [], n, h => by
    have : n = 0 := by simpa [rank] using h
    subst this; simp [rank]
  | y :: l, 0, h => by
    refine ⟨fun x hx => ?_, fun hx => by simp at hx⟩
    simp at hx; subst hx
    rw [rank_cons]
    split <;> simp_all
  | y :: l, n + 1, h => by
    rw [rank_cons] at h ⊢
    by_cases c : lt y.1 k = true
    · rw [if_pos c] at h ⊢
      have := rank_drop (k := k) l n (by omega)
      refine ⟨fun x hx => ?_, fun hx => ?_⟩
      · rw [this.1 x (by simpa using hx)]; omega
      · rw [this.2 (by simpa using hx)]
    · rw [if_neg c] at h; omega
theorem lget_mem {l : List (κ × ν)} {k : κ} {v : ν} (hs : Srt l) : lget l k = some v ↔ (k, v) ∈ l := by
  induction l with
  | nil => simp [lget]
  | cons x l ih =>
    unfold Srt at hs
    rw [List.pairwise_cons] at hs
    have ih := ih hs.2
    have e : lget (x :: l) k = if lt x.1 k then lget l k else if lt k x.1 then none else some x.2 := by
      unfold lget
      rw [rank_cons]
      by_cases c : lt x.1 k = true
      · rw [if_pos c, if_pos c]; simp
      · rw [if_neg c, if_neg c]; simp
    rw [e]
    by_cases c1 : lt x.1 k = true
    · rw [if_pos c1, ih]
      simp only [List.mem_cons]
      constructor
      · exact .inr
      · rintro (rfl | h)
        · rw [irr] at c1; cases c1
        · exact h
    · rw [if_neg c1]
      by_cases c2 : lt k x.1 = true
      · rw [if_pos c2]
        simp only [List.mem_cons, reduceCtorEq, false_iff, not_or]
        refine ⟨(fun e => (by rw [← e] at c2; simp only at c2; rw [irr] at c2; cases c2)), fun hm => ?_⟩
        have := tr _ _ _ c2 (hs.1 _ hm)
        simp only at this
        rw [irr] at this; cases this
      · rw [if_neg c2]
        have e := tri k x.1 (by simpa using c2) (by simpa using c1)
        simp only [List.mem_cons, Option.some.injEq]
        constructor
        · rintro rfl; exact .inl (by rw [e])
        · rintro (h | h)
          · rw [← h]
          · have := hs.1 _ h
            simp only at this
            rw [e, irr] at this; cases this
theorem lget_some {l : List (κ × ν)} {k : κ} {v : ν} (h : lget l k = some v) : l[rank l k]? = some (k, v) := by
  unfold lget at h
  split at h
  · rename_i x hx
    split at h
    · cases h
    · rename_i c
      have h2 : lt x.1 k = false := by
        have := (rank_drop l (rank l k) (Nat.le_refl _)).1 x hx
        cases hc : lt x.1 k with
        | false => rfl
        | true => have := this.1 hc; omega
      have e := tri k x.1 (by simpa using c) h2
      cases h
      rw [hx, e]
  · cases h
theorem lget_none {l : List (κ × ν)} {k : κ} (h : lget l k = none) : ∀ x, l[rank l k]? = some x → other x.1 k = true := by
  intro x hx
  unfold lget at h
  rw [hx] at h
  simp only at h
  split at h
  · rename_i c; unfold other; rw [c]; simp
  · cases h
end Go.Gx.Kp
